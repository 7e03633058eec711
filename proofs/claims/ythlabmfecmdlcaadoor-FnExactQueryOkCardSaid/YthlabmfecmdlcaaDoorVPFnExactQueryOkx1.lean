/- Contracts of Go functions that the law FnExactQueryOk reaches: each is told as a plain Lean function, with the walk that shows it; no condition beyond what each states. Written by a program of this session round the kit's printer. -/
import Derived.Test.YthlabmfecmdlcaaDoorVPFnExactQueryOkx0
namespace Go.Proofs.YthlabmfecmdlcaaDoor.PFnExactQueryOk
open Go.RowKit Go.Proofs.YthlabmfecmdlcaaDoorW.PrintWords Go.Proofs.YthlabmfecmdlcaaDoorW.PrintLast Go.Proofs.YthlabmfecmdlcaaDoorW.PrintMore
attribute [local go_sem] isSome_setCell run_str_geq run_str_leq max2_int min2_int max_two min_two max_three min_three max_four min_four   -- for this text's walks alone
set_option linter.unusedVariables false
set_option linter.unusedSimpArgs false

-- (held: laws_szQueryS)

/-! ### laws_szQuery: function 4 -/
/-! ### laws_szQueryS: function 9 -/
mutual
def laws_szQuery.f : Nat → Int → ByteArray → ByteArray → Int → Int → List (S24) → Int → Option (Int)
 | 0, _, _, _, _, _, _, _ => none
 | k + 1, a0_0, a0_1, a0_2, a0_3, a0_4, l0_5, a1 => if (wrap64 (a1 - (a0_1.size : Int))) < 0 then (some (-1)) else (if (wrap64 ((wrap64 (a1 - (a0_1.size : Int))) - (a0_2.size : Int))) < 0 then (some (-1)) else ((laws_szQueryS.f k l0_5 (wrap64 ((wrap64 (a1 - (a0_1.size : Int))) - (a0_2.size : Int)))).bind fun t104 => (if t104 < 0 then (some (-1)) else (some t104))))
def laws_szQueryS.l0 : Nat → List (S24) → Int → Int → Option (Int)
 | 0, _, _, _ => none
 | k + 1, x0, x1, x5 => if x5 < (x0.length : Int) then (if 0 ≤ x5 then ((laws_szQuery.f k ((rd_T24 x0 x5).f0) ((rd_T24 x0 x5).f1) ((rd_T24 x0 x5).f2) ((rd_T24 x0 x5).f3) ((rd_T24 x0 x5).f4) ((rd_T24 x0 x5).f5) x1).bind fun t102 => (if t102 < 0 then (some (-1)) else (laws_szQueryS.l0 k x0 t102 (wrap64 (x5 + 1))))) else (none)) else (some x1)
def laws_szQueryS.f : Nat → List (S24) → Int → Option (Int)
 | 0, _, _ => none
 | k + 1, l0, a1 => if (wrap64 (a1 - (l0.length : Int))) < 0 then (some (-1)) else (laws_szQueryS.l0 k l0 (wrap64 (a1 - (l0.length : Int))) 0)
end
theorem laws_szQuery.mono_l : ∀ k, (∀ y0 y1 y2 y3 y4 y5 y6, LeO (laws_szQuery.f k y0 y1 y2 y3 y4 y5 y6) (laws_szQuery.f (k + 1) y0 y1 y2 y3 y4 y5 y6)) ∧ (∀ y0 y1, LeO (laws_szQueryS.f k y0 y1) (laws_szQueryS.f (k + 1) y0 y1)) ∧ (∀ y0 y1 y2, LeO (laws_szQueryS.l0 k y0 y1 y2) (laws_szQueryS.l0 (k + 1) y0 y1 y2))
 | 0 => ⟨fun _ _ _ _ _ _ _ r h => by simp [laws_szQuery.f] at h, fun _ _ r h => by simp [laws_szQueryS.f] at h, fun _ _ _ r h => by simp [laws_szQueryS.l0] at h⟩
 | k + 1 => by
  obtain ⟨ih0, ih1, ih2⟩ := laws_szQuery.mono_l k; refine ⟨?_, ?_, ?_⟩
  ·intro y0 y1 y2 y3 y4 y5 y6; unfold laws_szQuery.f
   repeat' first
   | (with_reducible exact ih0 _ _ _ _ _ _ _)
   | (with_reducible exact ih1 _ _)
   | (with_reducible exact ih2 _ _ _)
   | (with_reducible exact LeO.refl _)
   | (with_reducible exact LeO.none _)
   | (with_reducible refine LeO.ite ?_ ?_)
   | (with_reducible refine LeO.bind ?_ (fun _ => ?_))
   | exact ih0 _ _ _ _ _ _ _
   | exact ih1 _ _
   | exact ih2 _ _ _
   | exact LeO.none _
   | refine LeO.ite ?_ ?_
   | refine LeO.bind ?_ (fun _ => ?_)
  ·intro y0 y1; unfold laws_szQueryS.f
   repeat' first
   | (with_reducible exact ih0 _ _ _ _ _ _ _)
   | (with_reducible exact ih1 _ _)
   | (with_reducible exact ih2 _ _ _)
   | (with_reducible exact LeO.refl _)
   | (with_reducible exact LeO.none _)
   | (with_reducible refine LeO.ite ?_ ?_)
   | (with_reducible refine LeO.bind ?_ (fun _ => ?_))
   | exact ih0 _ _ _ _ _ _ _
   | exact ih1 _ _
   | exact ih2 _ _ _
   | exact LeO.none _
   | refine LeO.ite ?_ ?_
   | refine LeO.bind ?_ (fun _ => ?_)
  ·intro y0 y1 y2; unfold laws_szQueryS.l0
   repeat' first
   | (with_reducible exact ih0 _ _ _ _ _ _ _)
   | (with_reducible exact ih1 _ _)
   | (with_reducible exact ih2 _ _ _)
   | (with_reducible exact LeO.refl _)
   | (with_reducible exact LeO.none _)
   | (with_reducible refine LeO.ite ?_ ?_)
   | (with_reducible refine LeO.bind ?_ (fun _ => ?_))
   | exact ih0 _ _ _ _ _ _ _
   | exact ih1 _ _
   | exact ih2 _ _ _
   | exact LeO.none _
   | refine LeO.ite ?_ ?_
   | refine LeO.bind ?_ (fun _ => ?_)
theorem laws_szQuery.mono : ∀ a0 a1 a2 a3 a4 a5 a6 k, LeO (laws_szQuery.f k a0 a1 a2 a3 a4 a5 a6) (laws_szQuery.f (k + 1) a0 a1 a2 a3 a4 a5 a6) := by
 intro a0 a1 a2 a3 a4 a5 a6 k; obtain ⟨ih0, ih1, ih2⟩ := laws_szQuery.mono_l k; exact ih0 a0 a1 a2 a3 a4 a5 a6
theorem laws_szQueryS.mono : ∀ a0 a1 k, LeO (laws_szQueryS.f k a0 a1) (laws_szQueryS.f (k + 1) a0 a1) := by
 intro a0 a1 k; obtain ⟨ih0, ih1, ih2⟩ := laws_szQuery.mono_l k; exact ih1 a0 a1
abbrev laws_szQuery.Stmt (k : Nat) : Prop := ∀ (a0_0 : Int) (a0_1 : ByteArray) (a0_2 : ByteArray) (a0_3 : Int) (a0_4 : Int) (A0_5 : Option Addr) (c0_5 : Nat) (l0_5 : List (S24)) (a1 : Int) (r : Int) (w : World) (hr0_5 : Kd.C k24 w A0_5 l0_5.length l0_5) (hc0_5 : l0_5.length ≤ c0_5) (h : laws_szQuery.f k a0_0 a0_1 a0_2 a0_3 a0_4 l0_5 a1 = some r),
  Calls Tryd.prog 4 #[.agg #[.int .i64 a0_0, .string a0_1, .string a0_2, .int .i64 a0_3, .int .i64 a0_4, .slice A0_5 l0_5.length c0_5], .int .i64 a1] w fun e w' => e = .returned (.int .i64 r) ∧ Below w.heap.size w w'
abbrev laws_szQueryS.Stmt (k : Nat) : Prop := ∀ (A0 : Option Addr) (c0 : Nat) (l0 : List (S24)) (a1 : Int) (r : Int) (w : World) (hr0 : Kd.C k24 w A0 l0.length l0) (hc0 : l0.length ≤ c0) (h : laws_szQueryS.f k l0 a1 = some r),
  Calls Tryd.prog 9 #[.slice A0 l0.length c0, .int .i64 a1] w fun e w' => e = .returned (.int .i64 r) ∧ Below w.heap.size w w'
set_option maxHeartbeats 8000000 in
set_option maxRecDepth 100000 in
theorem laws_szQuery.calls_ (k : Nat) (ih : ∀ m_, m_ < k → laws_szQuery.Stmt m_) (ih9 : ∀ m_, m_ < k → laws_szQueryS.Stmt m_) : laws_szQuery.Stmt k := by
 intro a0_0 a0_1 a0_2 a0_3 a0_4 A0_5 c0_5 l0_5 a1 r w hr0_5 hc0_5 h; cases k with
 | zero => exact absurd h (by simp [laws_szQuery.f])
 | succ k =>
 simp only [laws_szQuery.f] at h; have hu24 := Tryd.underlying24; have HR0_5 := am_ hr0_5; have HC0_5 := am_ hc0_5; clear hr0_5 hc0_5; have HB := am_ (Below.refl w.heap.size w); have H : (if (wrap64 (a1 - (a0_1.size : Int))) < 0 then (some (-1)) else (if (wrap64 ((wrap64 (a1 - (a0_1.size : Int))) - (a0_2.size : Int))) < 0 then (some (-1)) else ((laws_szQueryS.f k l0_5 (wrap64 ((wrap64 (a1 - (a0_1.size : Int))) - (a0_2.size : Int)))).bind fun t104 => (if t104 < 0 then (some (-1)) else (some t104))))) = some r := h; clear h; by_cases c3 : (wrap64 (a1 - (a0_1.size : Int))) < 0
 ·rw [if_pos c3] at H; have c3b0 : decide ((wrap64 (a1 - (a0_1.size : Int))) < 0) = true := decide_eq_true c3; clear c3; obtain rfl := Option.some.inj H; go_enter Tryd.func4, Tryd.ntmps4
  go_wp2_with (first | ((with_reducible refine gate_dst (N := 2) rfl ?_); refine box_event ?hg (N := 2) ?hd (cs := #[.int .i64 a0_0, .string a0_1, .string a0_2, .int .i64 a0_3, .int .i64 a0_4, .slice A0_5 l0_5.length c0_5]) (t := 24) ?hr ?_; (case hd => rfl); (case hg => rfl); (case hr => exact u26_); intro gb103 hg w4 hbox hb; have BK103 := am_ (hbox); have GW103 := am_ ((by rw [hg]; exact (below_size u1_) : w.heap.size ≤ gb103)); have GE103 := GW103; replace HB := am_ (below_step u1_ hb); clear hb hbox hg; have hcz5_0 : w4.cell? ⟨gb103, 0, none⟩ = some (.int .i64 a0_0) := (blk_cell BK103.out 0).trans rfl; have hcz5_1 : w4.cell? ⟨gb103, 1, none⟩ = some (.string a0_1) := (blk_cell BK103.out 1).trans rfl; have hcz5_2 : w4.cell? ⟨gb103, 2, none⟩ = some (.string a0_2) := (blk_cell BK103.out 2).trans rfl; have hcz5_3 : w4.cell? ⟨gb103, 3, none⟩ = some (.int .i64 a0_3) := (blk_cell BK103.out 3).trans rfl; have hcz5_4 : w4.cell? ⟨gb103, 4, none⟩ = some (.int .i64 a0_4) := (blk_cell BK103.out 4).trans rfl; have hcz5_5 : w4.cell? ⟨gb103, 5, none⟩ = some (.slice A0_5 l0_5.length c0_5) := (blk_cell BK103.out 5).trans rfl; have hfz5_0 := blk_frozen BK103.out 0; have hfz5_1 := blk_frozen BK103.out 1; have hfz5_2 := blk_frozen BK103.out 2; have hfz5_3 := blk_frozen BK103.out 3; have hfz5_4 := blk_frozen BK103.out 4; have hfz5_5 := blk_frozen BK103.out 5))
  go_ret
  exact ⟨u2_, u34_⟩
 ·rw [if_neg c3] at H; have c3b0 : decide ((wrap64 (a1 - (a0_1.size : Int))) < 0) = false := decide_eq_false c3; clear c3; by_cases c6 : (wrap64 ((wrap64 (a1 - (a0_1.size : Int))) - (a0_2.size : Int))) < 0
  ·rw [if_pos c6] at H; have c6b0 : decide ((wrap64 ((wrap64 (a1 - (a0_1.size : Int))) - (a0_2.size : Int))) < 0) = true := decide_eq_true c6; clear c6; obtain rfl := Option.some.inj H; go_enter Tryd.func4, Tryd.ntmps4
   go_wp2_with (first | ((with_reducible refine gate_dst (N := 2) rfl ?_); refine box_event ?hg (N := 2) ?hd (cs := #[.int .i64 a0_0, .string a0_1, .string a0_2, .int .i64 a0_3, .int .i64 a0_4, .slice A0_5 l0_5.length c0_5]) (t := 24) ?hr ?_; (case hd => rfl); (case hg => rfl); (case hr => exact u26_); intro gb103 hg w7 hbox hb; have BK103 := am_ (hbox); have GW103 := am_ ((by rw [hg]; exact (below_size u1_) : w.heap.size ≤ gb103)); have GE103 := GW103; replace HB := am_ (below_step u1_ hb); clear hb hbox hg; have hcz8_0 : w7.cell? ⟨gb103, 0, none⟩ = some (.int .i64 a0_0) := (blk_cell BK103.out 0).trans rfl; have hcz8_1 : w7.cell? ⟨gb103, 1, none⟩ = some (.string a0_1) := (blk_cell BK103.out 1).trans rfl; have hcz8_2 : w7.cell? ⟨gb103, 2, none⟩ = some (.string a0_2) := (blk_cell BK103.out 2).trans rfl; have hcz8_3 : w7.cell? ⟨gb103, 3, none⟩ = some (.int .i64 a0_3) := (blk_cell BK103.out 3).trans rfl; have hcz8_4 : w7.cell? ⟨gb103, 4, none⟩ = some (.int .i64 a0_4) := (blk_cell BK103.out 4).trans rfl; have hcz8_5 : w7.cell? ⟨gb103, 5, none⟩ = some (.slice A0_5 l0_5.length c0_5) := (blk_cell BK103.out 5).trans rfl; have hfz8_0 := blk_frozen BK103.out 0; have hfz8_1 := blk_frozen BK103.out 1; have hfz8_2 := blk_frozen BK103.out 2; have hfz8_3 := blk_frozen BK103.out 3; have hfz8_4 := blk_frozen BK103.out 4; have hfz8_5 := blk_frozen BK103.out 5))
   go_ret
   exact ⟨u2_, u34_⟩
  ·rw [if_neg c6] at H; have c6b0 : decide ((wrap64 ((wrap64 (a1 - (a0_1.size : Int))) - (a0_2.size : Int))) < 0) = false := decide_eq_false c6; clear c6; replace H := Option.bind_eq_some_iff.mp H; obtain ⟨t104, A90, H⟩ := H; replace H : (if t104 < 0 then (some (-1)) else (some t104)) = some r := H; have A9 := am_ A90; clear A90; by_cases c10 : t104 < 0
   ·rw [if_pos c10] at H; have c10b0 : decide (t104 < 0) = true := decide_eq_true c10; clear c10; obtain rfl := Option.some.inj H; go_enter Tryd.func4, Tryd.ntmps4
    go_wp2_with (first | ((with_reducible refine gate_dst (N := 2) rfl ?_); refine box_event ?hg (N := 2) ?hd (cs := #[.int .i64 a0_0, .string a0_1, .string a0_2, .int .i64 a0_3, .int .i64 a0_4, .slice A0_5 l0_5.length c0_5]) (t := 24) ?hr ?_; (case hd => rfl); (case hg => rfl); (case hr => exact u26_); intro gb103 hg w11 hbox hb; have BK103 := am_ (hbox); have GW103 := am_ ((by rw [hg]; exact (below_size u1_) : w.heap.size ≤ gb103)); have GE103 := GW103; replace HB := am_ (below_step u1_ hb); clear hb hbox hg; have hcz12_0 : w11.cell? ⟨gb103, 0, none⟩ = some (.int .i64 a0_0) := (blk_cell BK103.out 0).trans rfl; have hcz12_1 : w11.cell? ⟨gb103, 1, none⟩ = some (.string a0_1) := (blk_cell BK103.out 1).trans rfl; have hcz12_2 : w11.cell? ⟨gb103, 2, none⟩ = some (.string a0_2) := (blk_cell BK103.out 2).trans rfl; have hcz12_3 : w11.cell? ⟨gb103, 3, none⟩ = some (.int .i64 a0_3) := (blk_cell BK103.out 3).trans rfl; have hcz12_4 : w11.cell? ⟨gb103, 4, none⟩ = some (.int .i64 a0_4) := (blk_cell BK103.out 4).trans rfl; have hcz12_5 : w11.cell? ⟨gb103, 5, none⟩ = some (.slice A0_5 l0_5.length c0_5) := (blk_cell BK103.out 5).trans rfl; have hfz12_0 := blk_frozen BK103.out 0; have hfz12_1 := blk_frozen BK103.out 1; have hfz12_2 := blk_frozen BK103.out 2; have hfz12_3 := blk_frozen BK103.out 3; have hfz12_4 := blk_frozen BK103.out 4; have hfz12_5 := blk_frozen BK103.out 5) | ((with_reducible refine gate_callee (f := 9) rfl ?_); refine goesL_ (some 22) rfl rfl Tryd.func9 u8_ rfl #[.slice A0_5 l0_5.length c0_5, .int .i64 (wrap64 ((wrap64 (a1 - (a0_1.size : Int))) - (a0_2.size : Int)))] rfl u4_ ?_; (with_reducible refine (ih9 k u52_ _ _ l0_5 (wrap64 ((wrap64 (a1 - (a0_1.size : Int))) - (a0_2.size : Int))) t104 _ ?side1 ?side2 A9.out).mono ?_); (case side1 => exact u14_); (case side2 => exact u58_); rintro e w13 ⟨rfl, hb⟩; refine ⟨_, rfl, ?_⟩; replace BK103 := am_ (blk_below (g := gb103) (o := .cells #[.int .i64 a0_0, .string a0_1, .string a0_2, .int .i64 a0_3, .int .i64 a0_4, .slice A0_5 l0_5.length c0_5] 24 (0, 0)) u74_ hb); replace HB := am_ (below_step u34_ hb); (try clear hb); (try clear hb2); (try clear hk); (try clear hi)))
    go_ret
    exact ⟨u2_, u34_⟩
   ·rw [if_neg c10] at H; have c10b0 : decide (t104 < 0) = false := decide_eq_false c10; clear c10; obtain rfl := Option.some.inj H; go_enter Tryd.func4, Tryd.ntmps4
    go_wp2_with (first | ((with_reducible refine gate_dst (N := 2) rfl ?_); refine box_event ?hg (N := 2) ?hd (cs := #[.int .i64 a0_0, .string a0_1, .string a0_2, .int .i64 a0_3, .int .i64 a0_4, .slice A0_5 l0_5.length c0_5]) (t := 24) ?hr ?_; (case hd => rfl); (case hg => rfl); (case hr => exact u26_); intro gb103 hg w14 hbox hb; have BK103 := am_ (hbox); have GW103 := am_ ((by rw [hg]; exact (below_size u1_) : w.heap.size ≤ gb103)); have GE103 := GW103; replace HB := am_ (below_step u1_ hb); clear hb hbox hg; have hcz15_0 : w14.cell? ⟨gb103, 0, none⟩ = some (.int .i64 a0_0) := (blk_cell BK103.out 0).trans rfl; have hcz15_1 : w14.cell? ⟨gb103, 1, none⟩ = some (.string a0_1) := (blk_cell BK103.out 1).trans rfl; have hcz15_2 : w14.cell? ⟨gb103, 2, none⟩ = some (.string a0_2) := (blk_cell BK103.out 2).trans rfl; have hcz15_3 : w14.cell? ⟨gb103, 3, none⟩ = some (.int .i64 a0_3) := (blk_cell BK103.out 3).trans rfl; have hcz15_4 : w14.cell? ⟨gb103, 4, none⟩ = some (.int .i64 a0_4) := (blk_cell BK103.out 4).trans rfl; have hcz15_5 : w14.cell? ⟨gb103, 5, none⟩ = some (.slice A0_5 l0_5.length c0_5) := (blk_cell BK103.out 5).trans rfl; have hfz15_0 := blk_frozen BK103.out 0; have hfz15_1 := blk_frozen BK103.out 1; have hfz15_2 := blk_frozen BK103.out 2; have hfz15_3 := blk_frozen BK103.out 3; have hfz15_4 := blk_frozen BK103.out 4; have hfz15_5 := blk_frozen BK103.out 5) | ((with_reducible refine gate_callee (f := 9) rfl ?_); refine goesL_ (some 22) rfl rfl Tryd.func9 u8_ rfl #[.slice A0_5 l0_5.length c0_5, .int .i64 (wrap64 ((wrap64 (a1 - (a0_1.size : Int))) - (a0_2.size : Int)))] rfl u4_ ?_; (with_reducible refine (ih9 k u52_ _ _ l0_5 (wrap64 ((wrap64 (a1 - (a0_1.size : Int))) - (a0_2.size : Int))) t104 _ ?side1 ?side2 A9.out).mono ?_); (case side1 => exact u14_); (case side2 => exact u58_); rintro e w16 ⟨rfl, hb⟩; refine ⟨_, rfl, ?_⟩; replace BK103 := am_ (blk_below (g := gb103) (o := .cells #[.int .i64 a0_0, .string a0_1, .string a0_2, .int .i64 a0_3, .int .i64 a0_4, .slice A0_5 l0_5.length c0_5] 24 (0, 0)) u74_ hb); replace HB := am_ (below_step u34_ hb); (try clear hb); (try clear hb2); (try clear hk); (try clear hi)))
    go_ret
    exact ⟨u2_, u34_⟩
set_option maxHeartbeats 8000000 in
set_option maxRecDepth 100000 in
theorem laws_szQueryS.calls_ (k : Nat) (ih4 : ∀ m_, m_ < k → laws_szQuery.Stmt m_) (ih : ∀ m_, m_ < k → laws_szQueryS.Stmt m_) : laws_szQueryS.Stmt k := by
 intro A0 c0 l0 a1 r w hr0 hc0 h; cases k with
 | zero => exact absurd h (by simp [laws_szQueryS.f])
 | succ k =>
 simp only [laws_szQueryS.f] at h; have hu24 := Tryd.underlying24; have HR0 := am_ hr0; have HC0 := am_ hc0; clear hr0 hc0; have HB := am_ (Below.refl w.heap.size w); have H : (if (wrap64 (a1 - (l0.length : Int))) < 0 then (some (-1)) else (laws_szQueryS.l0 k l0 (wrap64 (a1 - (l0.length : Int))) 0)) = some r := h; clear h; by_cases c3 : (wrap64 (a1 - (l0.length : Int))) < 0
 ·rw [if_pos c3] at H; have c3b0 : decide ((wrap64 (a1 - (l0.length : Int))) < 0) = true := decide_eq_true c3; clear c3; obtain rfl := Option.some.inj H; go_enter Tryd.func9, Tryd.ntmps9
  go_wp2; go_ret
  exact ⟨u2_, u1_⟩
 ·rw [if_neg c3] at H; have c3b0 : decide ((wrap64 (a1 - (l0.length : Int))) < 0) = false := decide_eq_false c3; clear c3; have H' := am_ H; clear H; go_enter Tryd.func9, Tryd.ntmps9
  go_wp2; go_loopg [1, 5] k (fun kq v1 v5 w' => ∃ (x1_1 : Int) (x5_1 : Int), v1 = .int .i64 x1_1 ∧ v5 = .int .i64 x5_1 ∧ Aside0 (laws_szQueryS.l0 kq l0 x1_1 x5_1 = some r) ∧ Aside0 (kq ≤ k) ∧ Aside0 (Below w.heap.size w w'))
  case atStart => exact ⟨(wrap64 (a1 - (l0.length : Int))), (0), u20_, u20_, H', ⟨Nat.le_refl _⟩, ⟨u1_⟩⟩
  case round =>
   clear H'; try clear p2
   try clear c3
   try clear c3b0
   obtain ⟨x1_1, x5_1, rfl, rfl, HA, HK1, HB⟩ := hrel; cases gk with
   | zero => exact absurd HA.out (by simp [laws_szQueryS.l0])
   | succ k1 =>
    have H := HA.out; clear HA; simp only [laws_szQueryS.l0] at H; by_cases c4 : x5_1 < (l0.length : Int)
    ·rw [if_pos c4] at H; have c4b0 : decide (x5_1 < (l0.length : Int)) = true := decide_eq_true c4; clear c4; by_cases c5 : 0 ≤ x5_1
     ·rw [if_pos c5] at H; have c5b0 : decide (0 ≤ x5_1) = true := decide_eq_true c5; clear c5; replace H := Option.bind_eq_some_iff.mp H; obtain ⟨t102, A60, H⟩ := H; replace H : (if t102 < 0 then (some (-1)) else (laws_szQueryS.l0 k1 l0 t102 (wrap64 (x5_1 + 1)))) = some r := H; have A6 := am_ A60; clear A60; by_cases c7 : t102 < 0
      ·rw [if_pos c7] at H; have c7b0 : decide (t102 < 0) = true := decide_eq_true c7; clear c7; obtain rfl := Option.some.inj H; have p101 : 0 ≤ (x5_1 : Int) := of_decide_eq_true u7_; have q101 : x5_1 < (l0.length : Int) := of_decide_eq_true u7_; obtain ⟨ad101, A101_5, c101_5, e101, hx101_0, hx101_1, hx101_2, hx101_3, hx101_4, hx101_5, hl101_5, hi101_5⟩ := at_T24 HR0.out x5_1 p101 q101; cases e101; replace hx101_0 := (HB.out.cell (World.block_lt_of_cell? w _ hx101_0)).trans hx101_0; replace hx101_1 := (HB.out.cell (World.block_lt_of_cell? w _ hx101_1)).trans hx101_1; replace hx101_2 := (HB.out.cell (World.block_lt_of_cell? w _ hx101_2)).trans hx101_2; replace hx101_3 := (HB.out.cell (World.block_lt_of_cell? w _ hx101_3)).trans hx101_3; replace hx101_4 := (HB.out.cell (World.block_lt_of_cell? w _ hx101_4)).trans hx101_4; replace hx101_5 := (HB.out.cell (World.block_lt_of_cell? w _ hx101_5)).trans hx101_5; have HR101_5 := am_ hi101_5; have HC101_5 := am_ hl101_5; clear hi101_5 hl101_5; replace p101 := eq_true p101; replace q101 := eq_true q101; go_wp2_with (first | ((with_reducible refine gate_callee (f := 4) rfl ?_); refine goesL_ (some 23) rfl rfl Tryd.func4 u8_ rfl #[.agg #[.int .i64 ((rd_T24 l0 x5_1).f0), .string ((rd_T24 l0 x5_1).f1), .string ((rd_T24 l0 x5_1).f2), .int .i64 ((rd_T24 l0 x5_1).f3), .int .i64 ((rd_T24 l0 x5_1).f4), .slice A101_5 ((rd_T24 l0 x5_1).f5).length c101_5], .int .i64 x1_1] rfl u4_ ?_; (with_reducible refine (ih4 k1 u44_ ((rd_T24 l0 x5_1).f0) ((rd_T24 l0 x5_1).f1) ((rd_T24 l0 x5_1).f2) ((rd_T24 l0 x5_1).f3) ((rd_T24 l0 x5_1).f4) _ _ ((rd_T24 l0 x5_1).f5) x1_1 t102 _ ?side1 ?side2 A6.out).mono ?_); (case side1 => exact u61_); (case side2 => exact HC101_5.out); rintro e w8 ⟨rfl, hb⟩; refine ⟨_, rfl, ?_⟩; replace HB := am_ (below_step u1_ hb); (try clear hb); (try clear hb2); (try clear hk); (try clear hi)))
       go_ret
       exact ⟨u2_, u1_⟩
      ·rw [if_neg c7] at H; have c7b0 : decide (t102 < 0) = false := decide_eq_false c7; clear c7; have H' := am_ H; clear H; have p101 : 0 ≤ (x5_1 : Int) := of_decide_eq_true u7_; have q101 : x5_1 < (l0.length : Int) := of_decide_eq_true u7_; obtain ⟨ad101, A101_5, c101_5, e101, hx101_0, hx101_1, hx101_2, hx101_3, hx101_4, hx101_5, hl101_5, hi101_5⟩ := at_T24 HR0.out x5_1 p101 q101; cases e101; replace hx101_0 := (HB.out.cell (World.block_lt_of_cell? w _ hx101_0)).trans hx101_0; replace hx101_1 := (HB.out.cell (World.block_lt_of_cell? w _ hx101_1)).trans hx101_1; replace hx101_2 := (HB.out.cell (World.block_lt_of_cell? w _ hx101_2)).trans hx101_2; replace hx101_3 := (HB.out.cell (World.block_lt_of_cell? w _ hx101_3)).trans hx101_3; replace hx101_4 := (HB.out.cell (World.block_lt_of_cell? w _ hx101_4)).trans hx101_4; replace hx101_5 := (HB.out.cell (World.block_lt_of_cell? w _ hx101_5)).trans hx101_5; have HR101_5 := am_ hi101_5; have HC101_5 := am_ hl101_5; clear hi101_5 hl101_5; replace p101 := eq_true p101; replace q101 := eq_true q101; go_wp2_with (first | ((with_reducible refine gate_callee (f := 4) rfl ?_); refine goesL_ (some 23) rfl rfl Tryd.func4 u8_ rfl #[.agg #[.int .i64 ((rd_T24 l0 x5_1).f0), .string ((rd_T24 l0 x5_1).f1), .string ((rd_T24 l0 x5_1).f2), .int .i64 ((rd_T24 l0 x5_1).f3), .int .i64 ((rd_T24 l0 x5_1).f4), .slice A101_5 ((rd_T24 l0 x5_1).f5).length c101_5], .int .i64 x1_1] rfl u4_ ?_; (with_reducible refine (ih4 k1 u44_ ((rd_T24 l0 x5_1).f0) ((rd_T24 l0 x5_1).f1) ((rd_T24 l0 x5_1).f2) ((rd_T24 l0 x5_1).f3) ((rd_T24 l0 x5_1).f4) _ _ ((rd_T24 l0 x5_1).f5) x1_1 t102 _ ?side1 ?side2 A6.out).mono ?_); (case side1 => exact u61_); (case side2 => exact HC101_5.out); rintro e w9 ⟨rfl, hb⟩; refine ⟨_, rfl, ?_⟩; replace HB := am_ (below_step u1_ hb); (try clear hb); (try clear hb2); (try clear hk); (try clear hi)))
       go_roundg k1
       case measure => have := HK1.out; omega
       case rel => exact ⟨(t102), (wrap64 (x5_1 + 1)), u20_, u20_, H', ⟨u44_⟩, ⟨u1_⟩⟩
     ·exact u81_
    ·rw [if_neg c4] at H; have c4b0 : decide (x5_1 < (l0.length : Int)) = false := decide_eq_false c4; clear c4; obtain rfl := Option.some.inj H; go_wp2; go_ret
     exact ⟨u2_, u1_⟩
theorem laws_szQuery.ring (k : Nat) : laws_szQuery.Stmt k ∧ laws_szQueryS.Stmt k := by
 induction k using Nat.strongRecOn with
 | _ k ih =>
 exact ⟨laws_szQuery.calls_ k (fun m hm => (ih m hm).1) (fun m hm => (ih m hm).2), laws_szQueryS.calls_ k (fun m hm => (ih m hm).1) (fun m hm => (ih m hm).2)⟩
theorem laws_szQuery.calls (k : Nat) : laws_szQuery.Stmt k := (laws_szQuery.ring k).1
theorem laws_szQueryS.calls (k : Nat) : laws_szQueryS.Stmt k := (laws_szQuery.ring k).2

/-! ### spec_l1In: function 15 -/
def spec_l1In.f (a0 : Int) (a1 : Int) (a2 : Int) : Option (Bool) := if a0 ≥ a1 then (some (decide (a0 ≤ a2))) else (some false)
set_option maxHeartbeats 8000000 in
set_option maxRecDepth 100000 in
theorem spec_l1In.calls (a0 : Int) (a1 : Int) (a2 : Int) (r : Bool) (w : World) (h : spec_l1In.f a0 a1 a2 = some r) :
  Calls Tryd.prog 15 #[.int .i64 a0, .int .i64 a1, .int .i64 a2] w fun e w' => e = .returned (.bool r) ∧ Drawn0 w w' := by
 have H : (if a0 ≥ a1 then (some (decide (a0 ≤ a2))) else (some false)) = some r := h; clear h; by_cases c4 : a0 ≥ a1
 ·rw [if_pos c4] at H; have c4b0 : decide (a1 ≤ a0) = true := decide_eq_true c4; clear c4; obtain rfl := Option.some.inj H; go_enter Tryd.func15, Tryd.ntmps15
  go_wp2; go_ret
  exact ⟨u10_, u18_⟩
 ·rw [if_neg c4] at H; have c4b0 : decide (a1 ≤ a0) = false := decide_eq_false c4; clear c4; obtain rfl := Option.some.inj H; go_enter Tryd.func15, Tryd.ntmps15
  go_wp2; go_ret
  exact ⟨u10_, u18_⟩

/-! ### spec_NameOk: function 22 -/
def spec_NameOk.l0 : Nat → ByteArray → Int → Option (Bool)
 | 0, _, _ => none
 | k + 1, x0, x3 => if x3 < (x0.size : Int) then (if 0 ≤ x3 then (if (bt x0 x3) ≥ 97 then (if ((bt x0 x3) ≤ 122) then (spec_NameOk.l0 k x0 (wrap64 (x3 + 1))) else (if x3 = 0 then (some false) else (if (bt x0 x3) < 48 then (some false) else (if (bt x0 x3) > 57 then (some false) else (spec_NameOk.l0 k x0 (wrap64 (x3 + 1))))))) else (if x3 = 0 then (some false) else (if (bt x0 x3) < 48 then (some false) else (if (bt x0 x3) > 57 then (some false) else (spec_NameOk.l0 k x0 (wrap64 (x3 + 1))))))) else (none)) else ((spec_l1In.f (x0.size : Int) 1 8).bind fun t105 => (some t105))
def spec_NameOk.f (k : Nat) (a0 : ByteArray) : Option (Bool) := spec_NameOk.l0 k a0 0
theorem spec_NameOk.mono_l : ∀ k, (∀ y0 y1, LeO (spec_NameOk.l0 k y0 y1) (spec_NameOk.l0 (k + 1) y0 y1))
 | 0 => fun _ _ r h => by simp [spec_NameOk.l0] at h
 | k + 1 => by
  have ih0 := spec_NameOk.mono_l k
  ·intro y0 y1; unfold spec_NameOk.l0
   repeat' first
   | (with_reducible exact ih0 _ _)
   | (with_reducible exact LeO.refl _)
   | (with_reducible exact LeO.none _)
   | (with_reducible refine LeO.ite ?_ ?_)
   | (with_reducible refine LeO.bind ?_ (fun _ => ?_))
   | exact ih0 _ _
   | exact LeO.none _
   | refine LeO.ite ?_ ?_
   | refine LeO.bind ?_ (fun _ => ?_)
theorem spec_NameOk.mono : ∀ a0 k, LeO (spec_NameOk.f k a0) (spec_NameOk.f (k + 1) a0) := by
 intro a0 k; have ih0 := spec_NameOk.mono_l k; unfold spec_NameOk.f
 repeat' first
   | (with_reducible exact ih0 _ _)
   | (with_reducible exact LeO.refl _)
   | (with_reducible exact LeO.none _)
   | (with_reducible refine LeO.ite ?_ ?_)
   | (with_reducible refine LeO.bind ?_ (fun _ => ?_))
   | exact ih0 _ _
   | exact LeO.none _
   | refine LeO.ite ?_ ?_
   | refine LeO.bind ?_ (fun _ => ?_)
set_option maxHeartbeats 8000000 in
set_option maxRecDepth 100000 in
theorem spec_NameOk.calls (k : Nat) (a0 : ByteArray) (r : Bool) (w : World) (h : spec_NameOk.f k a0 = some r) :
  Calls Tryd.prog 22 #[.string a0] w fun e w' => e = .returned (.bool r) ∧ Drawn0 w w' := by
 have H : (spec_NameOk.l0 k a0 0) = some r := h; clear h; have H' := am_ H; clear H; go_enter Tryd.func22, Tryd.ntmps22
 go_wp2; go_loopg [3] k (fun kq v3 w' => ∃ (x3_1 : Int), v3 = .int .i64 x3_1 ∧ Aside0 (spec_NameOk.l0 kq a0 x3_1 = some r) ∧ Aside0 (kq ≤ k) ∧ Drawn0 w w')
 case atStart => exact ⟨(0), u20_, H', ⟨Nat.le_refl _⟩, u18_⟩
 case round =>
  clear H'; obtain ⟨x3_1, rfl, HA, HK1, ⟨m1, rfl⟩⟩ := hrel; cases gk with
  | zero => exact absurd HA.out (by simp [spec_NameOk.l0])
  | succ k1 =>
   have H := HA.out; clear HA; simp only [spec_NameOk.l0] at H; by_cases c2 : x3_1 < (a0.size : Int)
   ·rw [if_pos c2] at H; have c2b0 : decide (x3_1 < (a0.size : Int)) = true := decide_eq_true c2; clear c2; by_cases c3 : 0 ≤ x3_1
    ·rw [if_pos c3] at H; have c3b0 : decide (0 ≤ x3_1) = true := decide_eq_true c3; clear c3; by_cases c5 : (bt a0 x3_1) ≥ 97
     ·rw [if_pos c5] at H; have c5b0 : decide (97 ≤ (bt a0 x3_1)) = true := decide_eq_true c5; clear c5; by_cases c7 : ((bt a0 x3_1) ≤ 122)
      ·rw [if_pos c7] at H; have c7b0 : decide ((bt a0 x3_1) ≤ 122) = true := decide_eq_true c7; clear c7; have H' := am_ H; clear H; have p4 : 0 ≤ (x3_1 : Int) := of_decide_eq_true u7_; have q4 : x3_1 < (a0.size : Int) := of_decide_eq_true u7_; have hx4 := bt_at a0 x3_1; replace p4 := eq_true p4; replace q4 := eq_true q4; have p6 : 0 ≤ (x3_1 : Int) := of_decide_eq_true u7_; have q6 : x3_1 < (a0.size : Int) := of_decide_eq_true u7_; have hx6 := bt_at a0 x3_1; replace p6 := eq_true p6; replace q6 := eq_true q6; go_wp2; go_roundg k1
       case measure => have := HK1.out; omega
       case rel => exact ⟨(wrap64 (x3_1 + 1)), u20_, H', ⟨u44_⟩, u18_⟩
      ·rw [if_neg c7] at H; have c7b0 : decide ((bt a0 x3_1) ≤ 122) = false := decide_eq_false c7; clear c7; by_cases c8 : x3_1 = 0
       ·rw [if_pos c8] at H; have c8b0 : (x3_1 == 0) = true := beq_iff_eq.mpr c8; have c8b1 : (x3_1 != 0) = false := bne_eq_false_iff_eq.mpr c8; clear c8; obtain rfl := Option.some.inj H; have p4 : 0 ≤ (x3_1 : Int) := of_decide_eq_true u7_; have q4 : x3_1 < (a0.size : Int) := of_decide_eq_true u7_; have hx4 := bt_at a0 x3_1; replace p4 := eq_true p4; replace q4 := eq_true q4; have p6 : 0 ≤ (x3_1 : Int) := of_decide_eq_true u7_; have q6 : x3_1 < (a0.size : Int) := of_decide_eq_true u7_; have hx6 := bt_at a0 x3_1; replace p6 := eq_true p6; replace q6 := eq_true q6; go_wp2; go_ret
        exact ⟨u10_, u18_⟩
       ·rw [if_neg c8] at H; have c8b0 : (x3_1 == 0) = false := beq_eq_false_iff_ne.mpr c8; have c8b1 : (x3_1 != 0) = true := bne_iff_ne.mpr c8; by_cases c10 : (bt a0 x3_1) < 48
        ·rw [if_pos c10] at H; have c10b0 : decide ((bt a0 x3_1) < 48) = true := decide_eq_true c10; clear c10; obtain rfl := Option.some.inj H; have p4 : 0 ≤ (x3_1 : Int) := of_decide_eq_true u7_; have q4 : x3_1 < (a0.size : Int) := of_decide_eq_true u7_; have hx4 := bt_at a0 x3_1; replace p4 := eq_true p4; replace q4 := eq_true q4; have p6 : 0 ≤ (x3_1 : Int) := of_decide_eq_true u7_; have q6 : x3_1 < (a0.size : Int) := of_decide_eq_true u7_; have hx6 := bt_at a0 x3_1; replace p6 := eq_true p6; replace q6 := eq_true q6; have p9 : 0 ≤ (x3_1 : Int) := of_decide_eq_true u7_; have q9 : x3_1 < (a0.size : Int) := of_decide_eq_true u7_; have hx9 := bt_at a0 x3_1; replace p9 := eq_true p9; replace q9 := eq_true q9; go_wp2; go_ret
         exact ⟨u10_, u18_⟩
        ·rw [if_neg c10] at H; have c10b0 : decide ((bt a0 x3_1) < 48) = false := decide_eq_false c10; clear c10; by_cases c12 : (bt a0 x3_1) > 57
         ·rw [if_pos c12] at H; have c12b0 : decide (57 < (bt a0 x3_1)) = true := decide_eq_true c12; clear c12; obtain rfl := Option.some.inj H; have p4 : 0 ≤ (x3_1 : Int) := of_decide_eq_true u7_; have q4 : x3_1 < (a0.size : Int) := of_decide_eq_true u7_; have hx4 := bt_at a0 x3_1; replace p4 := eq_true p4; replace q4 := eq_true q4; have p6 : 0 ≤ (x3_1 : Int) := of_decide_eq_true u7_; have q6 : x3_1 < (a0.size : Int) := of_decide_eq_true u7_; have hx6 := bt_at a0 x3_1; replace p6 := eq_true p6; replace q6 := eq_true q6; have p9 : 0 ≤ (x3_1 : Int) := of_decide_eq_true u7_; have q9 : x3_1 < (a0.size : Int) := of_decide_eq_true u7_; have hx9 := bt_at a0 x3_1; replace p9 := eq_true p9; replace q9 := eq_true q9; have p11 : 0 ≤ (x3_1 : Int) := of_decide_eq_true u7_; have q11 : x3_1 < (a0.size : Int) := of_decide_eq_true u7_; have hx11 := bt_at a0 x3_1; replace p11 := eq_true p11; replace q11 := eq_true q11; go_wp2; go_ret
          exact ⟨u10_, u18_⟩
         ·rw [if_neg c12] at H; have c12b0 : decide (57 < (bt a0 x3_1)) = false := decide_eq_false c12; clear c12; have H' := am_ H; clear H; have p4 : 0 ≤ (x3_1 : Int) := of_decide_eq_true u7_; have q4 : x3_1 < (a0.size : Int) := of_decide_eq_true u7_; have hx4 := bt_at a0 x3_1; replace p4 := eq_true p4; replace q4 := eq_true q4; have p6 : 0 ≤ (x3_1 : Int) := of_decide_eq_true u7_; have q6 : x3_1 < (a0.size : Int) := of_decide_eq_true u7_; have hx6 := bt_at a0 x3_1; replace p6 := eq_true p6; replace q6 := eq_true q6; have p9 : 0 ≤ (x3_1 : Int) := of_decide_eq_true u7_; have q9 : x3_1 < (a0.size : Int) := of_decide_eq_true u7_; have hx9 := bt_at a0 x3_1; replace p9 := eq_true p9; replace q9 := eq_true q9; have p11 : 0 ≤ (x3_1 : Int) := of_decide_eq_true u7_; have q11 : x3_1 < (a0.size : Int) := of_decide_eq_true u7_; have hx11 := bt_at a0 x3_1; replace p11 := eq_true p11; replace q11 := eq_true q11; go_wp2; go_roundg k1
          case measure => have := HK1.out; omega
          case rel => exact ⟨(wrap64 (x3_1 + 1)), u20_, H', ⟨u44_⟩, u18_⟩
     ·rw [if_neg c5] at H; have c5b0 : decide (97 ≤ (bt a0 x3_1)) = false := decide_eq_false c5; clear c5; by_cases c13 : x3_1 = 0
      ·rw [if_pos c13] at H; have c13b0 : (x3_1 == 0) = true := beq_iff_eq.mpr c13; have c13b1 : (x3_1 != 0) = false := bne_eq_false_iff_eq.mpr c13; clear c13; obtain rfl := Option.some.inj H; have p4 : 0 ≤ (x3_1 : Int) := of_decide_eq_true u7_; have q4 : x3_1 < (a0.size : Int) := of_decide_eq_true u7_; have hx4 := bt_at a0 x3_1; replace p4 := eq_true p4; replace q4 := eq_true q4; go_wp2; go_ret
       exact ⟨u10_, u18_⟩
      ·rw [if_neg c13] at H; have c13b0 : (x3_1 == 0) = false := beq_eq_false_iff_ne.mpr c13; have c13b1 : (x3_1 != 0) = true := bne_iff_ne.mpr c13; by_cases c15 : (bt a0 x3_1) < 48
       ·rw [if_pos c15] at H; have c15b0 : decide ((bt a0 x3_1) < 48) = true := decide_eq_true c15; clear c15; obtain rfl := Option.some.inj H; have p4 : 0 ≤ (x3_1 : Int) := of_decide_eq_true u7_; have q4 : x3_1 < (a0.size : Int) := of_decide_eq_true u7_; have hx4 := bt_at a0 x3_1; replace p4 := eq_true p4; replace q4 := eq_true q4; have p14 : 0 ≤ (x3_1 : Int) := of_decide_eq_true u7_; have q14 : x3_1 < (a0.size : Int) := of_decide_eq_true u7_; have hx14 := bt_at a0 x3_1; replace p14 := eq_true p14; replace q14 := eq_true q14; go_wp2; go_ret
        exact ⟨u10_, u18_⟩
       ·rw [if_neg c15] at H; have c15b0 : decide ((bt a0 x3_1) < 48) = false := decide_eq_false c15; clear c15; by_cases c17 : (bt a0 x3_1) > 57
        ·rw [if_pos c17] at H; have c17b0 : decide (57 < (bt a0 x3_1)) = true := decide_eq_true c17; clear c17; obtain rfl := Option.some.inj H; have p4 : 0 ≤ (x3_1 : Int) := of_decide_eq_true u7_; have q4 : x3_1 < (a0.size : Int) := of_decide_eq_true u7_; have hx4 := bt_at a0 x3_1; replace p4 := eq_true p4; replace q4 := eq_true q4; have p14 : 0 ≤ (x3_1 : Int) := of_decide_eq_true u7_; have q14 : x3_1 < (a0.size : Int) := of_decide_eq_true u7_; have hx14 := bt_at a0 x3_1; replace p14 := eq_true p14; replace q14 := eq_true q14; have p16 : 0 ≤ (x3_1 : Int) := of_decide_eq_true u7_; have q16 : x3_1 < (a0.size : Int) := of_decide_eq_true u7_; have hx16 := bt_at a0 x3_1; replace p16 := eq_true p16; replace q16 := eq_true q16; go_wp2; go_ret
         exact ⟨u10_, u18_⟩
        ·rw [if_neg c17] at H; have c17b0 : decide (57 < (bt a0 x3_1)) = false := decide_eq_false c17; clear c17; have H' := am_ H; clear H; have p4 : 0 ≤ (x3_1 : Int) := of_decide_eq_true u7_; have q4 : x3_1 < (a0.size : Int) := of_decide_eq_true u7_; have hx4 := bt_at a0 x3_1; replace p4 := eq_true p4; replace q4 := eq_true q4; have p14 : 0 ≤ (x3_1 : Int) := of_decide_eq_true u7_; have q14 : x3_1 < (a0.size : Int) := of_decide_eq_true u7_; have hx14 := bt_at a0 x3_1; replace p14 := eq_true p14; replace q14 := eq_true q14; have p16 : 0 ≤ (x3_1 : Int) := of_decide_eq_true u7_; have q16 : x3_1 < (a0.size : Int) := of_decide_eq_true u7_; have hx16 := bt_at a0 x3_1; replace p16 := eq_true p16; replace q16 := eq_true q16; go_wp2; go_roundg k1
         case measure => have := HK1.out; omega
         case rel => exact ⟨(wrap64 (x3_1 + 1)), u20_, H', ⟨u44_⟩, u18_⟩
    ·exact u84_
   ·rw [if_neg c2] at H; have c2b0 : decide (x3_1 < (a0.size : Int)) = false := decide_eq_false c2; clear c2; replace H := Option.bind_eq_some_iff.mp H; obtain ⟨t105, A180, H⟩ := H; replace H : (some t105) = some r := H; have A18 := am_ A180; clear A180; obtain rfl := Option.some.inj H; go_wp2_with (first | ((with_reducible refine gate_callee (f := 15) rfl ?_); refine goesL_ (some 41) rfl rfl Tryd.func15 u8_ rfl #[.int .i64 (a0.size : Int), .int .i64 1, .int .i64 8] rfl u4_ ?_; (with_reducible refine (spec_l1In.calls (a0.size : Int) 1 8 t105 _ A18.out).mono ?_); rintro e w' ⟨rfl, ⟨nd, rfl⟩⟩; refine ⟨_, rfl, ?_⟩))
    go_ret
    exact ⟨u10_, u18_⟩

/-! ### spec_l1Small: function 34 -/
def spec_l1Small.f (a0 : Int) : Option (Int) := if a0 ≥ 65 then (if a0 ≤ 90 then (some ((a0 + 32) % 256)) else (some a0)) else (some a0)
set_option maxHeartbeats 8000000 in
set_option maxRecDepth 100000 in
theorem spec_l1Small.calls (a0 : Int) (r : Int) (w : World) (h : spec_l1Small.f a0 = some r) :
  Calls Tryd.prog 34 #[.int .u8 a0] w fun e w' => e = .returned (.int .u8 r) ∧ Drawn0 w w' := by
 have H : (if a0 ≥ 65 then (if a0 ≤ 90 then (some ((a0 + 32) % 256)) else (some a0)) else (some a0)) = some r := h; clear h; by_cases c2 : a0 ≥ 65
 ·rw [if_pos c2] at H; have c2b0 : decide (65 ≤ a0) = true := decide_eq_true c2; clear c2; by_cases c3 : a0 ≤ 90
  ·rw [if_pos c3] at H; have c3b0 : decide (a0 ≤ 90) = true := decide_eq_true c3; clear c3; obtain rfl := Option.some.inj H; go_enter Tryd.func34, Tryd.ntmps34
   go_wp2; go_ret
   exact ⟨u10_, u18_⟩
  ·rw [if_neg c3] at H; have c3b0 : decide (a0 ≤ 90) = false := decide_eq_false c3; clear c3; obtain rfl := Option.some.inj H; go_enter Tryd.func34, Tryd.ntmps34
   go_wp2; go_ret
   exact ⟨u10_, u18_⟩
 ·rw [if_neg c2] at H; have c2b0 : decide (65 ≤ a0) = false := decide_eq_false c2; clear c2; obtain rfl := Option.some.inj H; go_enter Tryd.func34, Tryd.ntmps34
  go_wp2; go_ret
  exact ⟨u10_, u18_⟩

/-! ### spec_l1Part: function 37 -/
def spec_l1Part.f (a0 : Int) : Option (Bool) := (spec_l1Small.f a0).bind fun t106 => (if t106 ≥ 97 then (if t106 ≤ 122 then (some true) else (if t106 ≥ 48 then (some (decide (t106 ≤ 57))) else (some false))) else (if t106 ≥ 48 then (some (decide (t106 ≤ 57))) else (some false)))
set_option maxHeartbeats 8000000 in
set_option maxRecDepth 100000 in
theorem spec_l1Part.calls (a0 : Int) (r : Bool) (w : World) (h : spec_l1Part.f a0 = some r) :
  Calls Tryd.prog 37 #[.int .u8 a0] w fun e w' => e = .returned (.bool r) ∧ Drawn0 w w' := by
 have H : ((spec_l1Small.f a0).bind fun t106 => (if t106 ≥ 97 then (if t106 ≤ 122 then (some true) else (if t106 ≥ 48 then (some (decide (t106 ≤ 57))) else (some false))) else (if t106 ≥ 48 then (some (decide (t106 ≤ 57))) else (some false)))) = some r := h; clear h; replace H := Option.bind_eq_some_iff.mp H; obtain ⟨t106, A20, H⟩ := H; replace H : (if t106 ≥ 97 then (if t106 ≤ 122 then (some true) else (if t106 ≥ 48 then (some (decide (t106 ≤ 57))) else (some false))) else (if t106 ≥ 48 then (some (decide (t106 ≤ 57))) else (some false))) = some r := H; have A2 := am_ A20; clear A20; by_cases c3 : t106 ≥ 97
 ·rw [if_pos c3] at H; have c3b0 : decide (97 ≤ t106) = true := decide_eq_true c3; clear c3; by_cases c4 : t106 ≤ 122
  ·rw [if_pos c4] at H; have c4b0 : decide (t106 ≤ 122) = true := decide_eq_true c4; clear c4; obtain rfl := Option.some.inj H; go_enter Tryd.func37, Tryd.ntmps37
   go_wp2_with (first | ((with_reducible refine gate_callee (f := 34) rfl ?_); refine goesL_ (some 5) rfl rfl Tryd.func34 u8_ rfl #[.int .u8 a0] rfl u4_ ?_; (with_reducible refine (spec_l1Small.calls a0 t106 _ A2.out).mono ?_); rintro e w' ⟨rfl, ⟨nd, rfl⟩⟩; refine ⟨_, rfl, ?_⟩))
   go_ret
   exact ⟨u10_, u18_⟩
  ·rw [if_neg c4] at H; have c4b0 : decide (t106 ≤ 122) = false := decide_eq_false c4; clear c4; by_cases c5 : t106 ≥ 48
   ·rw [if_pos c5] at H; have c5b0 : decide (48 ≤ t106) = true := decide_eq_true c5; clear c5; obtain rfl := Option.some.inj H; go_enter Tryd.func37, Tryd.ntmps37
    go_wp2_with (first | ((with_reducible refine gate_callee (f := 34) rfl ?_); refine goesL_ (some 5) rfl rfl Tryd.func34 u8_ rfl #[.int .u8 a0] rfl u4_ ?_; (with_reducible refine (spec_l1Small.calls a0 t106 _ A2.out).mono ?_); rintro e w' ⟨rfl, ⟨nd, rfl⟩⟩; refine ⟨_, rfl, ?_⟩))
    go_ret
    exact ⟨u10_, u18_⟩
   ·rw [if_neg c5] at H; have c5b0 : decide (48 ≤ t106) = false := decide_eq_false c5; clear c5; obtain rfl := Option.some.inj H; go_enter Tryd.func37, Tryd.ntmps37
    go_wp2_with (first | ((with_reducible refine gate_callee (f := 34) rfl ?_); refine goesL_ (some 5) rfl rfl Tryd.func34 u8_ rfl #[.int .u8 a0] rfl u4_ ?_; (with_reducible refine (spec_l1Small.calls a0 t106 _ A2.out).mono ?_); rintro e w' ⟨rfl, ⟨nd, rfl⟩⟩; refine ⟨_, rfl, ?_⟩))
    go_ret
    exact ⟨u10_, u18_⟩
 ·rw [if_neg c3] at H; have c3b0 : decide (97 ≤ t106) = false := decide_eq_false c3; clear c3; by_cases c6 : t106 ≥ 48
  ·rw [if_pos c6] at H; have c6b0 : decide (48 ≤ t106) = true := decide_eq_true c6; clear c6; obtain rfl := Option.some.inj H; go_enter Tryd.func37, Tryd.ntmps37
   go_wp2_with (first | ((with_reducible refine gate_callee (f := 34) rfl ?_); refine goesL_ (some 5) rfl rfl Tryd.func34 u8_ rfl #[.int .u8 a0] rfl u4_ ?_; (with_reducible refine (spec_l1Small.calls a0 t106 _ A2.out).mono ?_); rintro e w' ⟨rfl, ⟨nd, rfl⟩⟩; refine ⟨_, rfl, ?_⟩))
   go_ret
   exact ⟨u10_, u18_⟩
  ·rw [if_neg c6] at H; have c6b0 : decide (48 ≤ t106) = false := decide_eq_false c6; clear c6; obtain rfl := Option.some.inj H; go_enter Tryd.func37, Tryd.ntmps37
   go_wp2_with (first | ((with_reducible refine gate_callee (f := 34) rfl ?_); refine goesL_ (some 5) rfl rfl Tryd.func34 u8_ rfl #[.int .u8 a0] rfl u4_ ?_; (with_reducible refine (spec_l1Small.calls a0 t106 _ A2.out).mono ?_); rintro e w' ⟨rfl, ⟨nd, rfl⟩⟩; refine ⟨_, rfl, ?_⟩))
   go_ret
   exact ⟨u10_, u18_⟩

end Go.Proofs.YthlabmfecmdlcaaDoor.PFnExactQueryOk
