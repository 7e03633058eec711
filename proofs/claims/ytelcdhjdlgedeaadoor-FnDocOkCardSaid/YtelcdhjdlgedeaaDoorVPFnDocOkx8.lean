/- Contracts of Go functions that the law FnDocOk reaches: each is told as a plain Lean function, with the walk that shows it; no condition beyond what each states. Written by a program of this session round the kit's printer. -/
import Derived.Test.YtelcdhjdlgedeaaDoorVPFnDocOkx0
import Derived.Test.YtelcdhjdlgedeaaDoorVPFnDocOkx6
import Derived.Test.YtelcdhjdlgedeaaDoorVPFnDocOkx7
namespace Go.Proofs.YtelcdhjdlgedeaaDoor.PFnDocOk
open Go.RowKit Go.Proofs.YtelcdhjdlgedeaaDoorW.PrintWords Go.Proofs.YtelcdhjdlgedeaaDoorW.PrintLast Go.Proofs.YtelcdhjdlgedeaaDoorW.PrintMore
attribute [local go_sem] run_str_geq run_str_leq max2_int min2_int max_two min_two max_three min_three max_four min_four   -- for this text's walks alone
set_option linter.unusedVariables false
set_option linter.unusedSimpArgs false

/-! ### impl_DocOk: function 26 -/
theorem impl_DocOk.fld75_1 (x0 : ByteArray) (x1 : Int) (x2 : Int) (w : World) : (Instr.field 75 (Value.agg #[Value.string x0, Value.int .i64 x1, Value.int .i64 x2]) 1).run Tryd.prog w = .ok (Value.int .i64 x1) w := by kernel_rfl
attribute [local go_sem] impl_DocOk.fld75_1
mutual
def impl_DocOk.j0 : Nat → List (S75) → Bool → ByteArray → List (S46) → Option (Bool)
 | 0, _, _, _, _ => none
 | k + 1, x0, x16, x305000, x305001 => if x16 = true then (some false) else (impl_DocOk.l0 k x0 x305001 (x305001.length : Int) 0)
def impl_DocOk.l0 : Nat → List (S75) → List (S46) → Int → Int → Option (Bool)
 | 0, _, _, _, _ => none
 | k + 1, x0, x18, x19, x20 => if x20 < x19 then (if 0 ≤ x20 then (if x20 < (x18.length : Int) then ((impl_fieldOf.f k x0 ((rd_T46 x18 x20).f0)).bind fun bt309 => (if bt309.2.1 = 1 then (impl_DocOk.l0 k x0 x18 x19 (wrap64 (x20 + 1))) else (if bt309.2.1 = 2 then ((impl_number.f ((rd_T46 x18 x20).f1)).bind fun bt312 => (if bt312.2 = true then (impl_DocOk.l0 k x0 x18 x19 (wrap64 (x20 + 1))) else (some false))) else (if bt309.2.1 = 3 then ((impl_tagsOk.f k ((rd_T46 x18 x20).f1)).bind fun t314 => (if t314 = true then (impl_DocOk.l0 k x0 x18 x19 (wrap64 (x20 + 1))) else (some false))) else (some false))))) else (none)) else (none)) else (some true)
end
def impl_DocOk.f (k : Nat) (l0 : List (S75)) (a1_0 : ByteArray) (l1_1 : List (S46)) : Option (Bool) := (impl_FieldsOk.f k l0).bind fun t305 => (if t305 = true then ((impl_wellFormed.f k a1_0 l1_1).bind fun t306 => (impl_DocOk.j0 k l0 (!t306) a1_0 l1_1)) else (impl_DocOk.j0 k l0 true a1_0 l1_1))
theorem impl_DocOk.mono_l : ∀ k, (∀ y0 y1 y2 y3, LeO (impl_DocOk.j0 k y0 y1 y2 y3) (impl_DocOk.j0 (k + 1) y0 y1 y2 y3)) ∧ (∀ y0 y1 y2 y3, LeO (impl_DocOk.l0 k y0 y1 y2 y3) (impl_DocOk.l0 (k + 1) y0 y1 y2 y3))
 | 0 => ⟨fun _ _ _ _ r h => by simp [impl_DocOk.j0] at h, fun _ _ _ _ r h => by simp [impl_DocOk.l0] at h⟩
 | k + 1 => by
  obtain ⟨ih0, ih1⟩ := impl_DocOk.mono_l k; refine ⟨?_, ?_⟩
  ·intro y0 y1 y2 y3; unfold impl_DocOk.j0
   repeat' first
   | (with_reducible exact ih0 _ _ _ _)
   | (with_reducible exact ih1 _ _ _ _)
   | (with_reducible exact impl_FieldsOk.mono _ _)
   | (with_reducible exact impl_fieldOf.mono _ _ _)
   | (with_reducible exact impl_tagsOk.mono _ _)
   | (with_reducible exact impl_wellFormed.mono _ _ _)
   | (with_reducible exact LeO.refl _)
   | (with_reducible exact LeO.none _)
   | (with_reducible refine LeO.ite ?_ ?_)
   | (with_reducible refine LeO.bind ?_ (fun _ => ?_))
   | exact ih0 _ _ _ _
   | exact ih1 _ _ _ _
   | exact impl_FieldsOk.mono _ _
   | exact impl_fieldOf.mono _ _ _
   | exact impl_tagsOk.mono _ _
   | exact impl_wellFormed.mono _ _ _
   | exact LeO.none _
   | refine LeO.ite ?_ ?_
   | refine LeO.bind ?_ (fun _ => ?_)
  ·intro y0 y1 y2 y3; unfold impl_DocOk.l0
   repeat' first
   | (with_reducible exact ih0 _ _ _ _)
   | (with_reducible exact ih1 _ _ _ _)
   | (with_reducible exact impl_FieldsOk.mono _ _)
   | (with_reducible exact impl_fieldOf.mono _ _ _)
   | (with_reducible exact impl_tagsOk.mono _ _)
   | (with_reducible exact impl_wellFormed.mono _ _ _)
   | (with_reducible exact LeO.refl _)
   | (with_reducible exact LeO.none _)
   | (with_reducible refine LeO.ite ?_ ?_)
   | (with_reducible refine LeO.bind ?_ (fun _ => ?_))
   | exact ih0 _ _ _ _
   | exact ih1 _ _ _ _
   | exact impl_FieldsOk.mono _ _
   | exact impl_fieldOf.mono _ _ _
   | exact impl_tagsOk.mono _ _
   | exact impl_wellFormed.mono _ _ _
   | exact LeO.none _
   | refine LeO.ite ?_ ?_
   | refine LeO.bind ?_ (fun _ => ?_)
theorem impl_DocOk.mono : ∀ a0 a1 a2 k, LeO (impl_DocOk.f k a0 a1 a2) (impl_DocOk.f (k + 1) a0 a1 a2) := by
 intro a0 a1 a2 k; obtain ⟨ih0, ih1⟩ := impl_DocOk.mono_l k; unfold impl_DocOk.f
 repeat' first
   | (with_reducible exact ih0 _ _ _ _)
   | (with_reducible exact ih1 _ _ _ _)
   | (with_reducible exact impl_FieldsOk.mono _ _)
   | (with_reducible exact impl_fieldOf.mono _ _ _)
   | (with_reducible exact impl_tagsOk.mono _ _)
   | (with_reducible exact impl_wellFormed.mono _ _ _)
   | (with_reducible exact LeO.refl _)
   | (with_reducible exact LeO.none _)
   | (with_reducible refine LeO.ite ?_ ?_)
   | (with_reducible refine LeO.bind ?_ (fun _ => ?_))
   | exact ih0 _ _ _ _
   | exact ih1 _ _ _ _
   | exact impl_FieldsOk.mono _ _
   | exact impl_fieldOf.mono _ _ _
   | exact impl_tagsOk.mono _ _
   | exact impl_wellFormed.mono _ _ _
   | exact LeO.none _
   | refine LeO.ite ?_ ?_
   | refine LeO.bind ?_ (fun _ => ?_)
set_option maxHeartbeats 8000000 in
set_option maxRecDepth 100000 in
theorem impl_DocOk.calls (k : Nat) (A0 : Option Addr) (c0 : Nat) (l0 : List (S75)) (a1_0 : ByteArray) (A1_1 : Option Addr) (c1_1 : Nat) (l1_1 : List (S46)) (r : Bool) (w : World) (hG : StopsIn w) (hr0 : Kd.C k75 w A0 l0.length l0) (hc0 : l0.length ≤ c0) (hr1_1 : Kd.C k46 w A1_1 l1_1.length l1_1) (hc1_1 : l1_1.length ≤ c1_1) (h : impl_DocOk.f k l0 a1_0 l1_1 = some r) :
  Calls Tryd.prog 26 #[.slice A0 l0.length c0, .agg #[.string a1_0, .slice A1_1 l1_1.length c1_1]] w fun e w' => e = .returned (.bool r) ∧ Below w.heap.size w w' := by
 have hu41 := Tryd.underlying41; have hu46 := Tryd.underlying46; have HG_ := am_ hG; clear hG; have HR0 := am_ hr0; have HC0 := am_ hc0; clear hr0 hc0; have HR1_1 := am_ hr1_1; have HC1_1 := am_ hc1_1; clear hr1_1 hc1_1; have HB := am_ (Below.refl w.heap.size w); have H : ((impl_FieldsOk.f k l0).bind fun t305 => (if t305 = true then ((impl_wellFormed.f k a1_0 l1_1).bind fun t306 => (impl_DocOk.j0 k l0 (!t306) a1_0 l1_1)) else (impl_DocOk.j0 k l0 true a1_0 l1_1))) = some r := h; clear h; have HC3 := am_ H; clear H; go_enter Tryd.func26, Tryd.ntmps26
 go_upto_region 1 with (first | ((with_reducible refine gate_dst (N := 3) rfl ?_); refine box_event ?hg (N := 3) ?hd (cs := #[.string a1_0, .slice A1_1 l1_1.length c1_1]) (t := 41) ?hr ?_; (case hd => rfl); (case hg => rfl); (case hr => exact u33_); intro gb304 hg w4 hbox hb; have BK304 := am_ (hbox); have GW304 := am_ ((by rw [hg]; exact (below_size u2_) : w.heap.size ≤ gb304)); have GE304 := GW304; replace HB := am_ (below_step u2_ hb); clear hb hbox hg))
 (try simp only [Act.put, List.setIfInBounds_toArray, List.set_cons_zero, List.set_cons_succ])
 go_cut [16] (fun v16 wc => ∃ (kq : Nat) (x16_2 : Bool), v16 = .bool x16_2 ∧ Aside0 (impl_DocOk.j0 kq l0 x16_2 a1_0 l1_1 = some r) ∧ Aside0 (kq ≤ k) ∧ Aside0 (wc.heap[gb304]? = some (.cells #[.string a1_0, (.slice A1_1 l1_1.length c1_1)] 41 (0, 0))) ∧ Aside0 (Below w.heap.size w wc))
 case first =>
  have H := HC3.out; clear HC3; replace H := Option.bind_eq_some_iff.mp H; obtain ⟨t305, A50, H⟩ := H; replace H : (if t305 = true then ((impl_wellFormed.f k a1_0 l1_1).bind fun t306 => (impl_DocOk.j0 k l0 (!t306) a1_0 l1_1)) else (impl_DocOk.j0 k l0 true a1_0 l1_1)) = some r := H; have A5 := am_ A50; clear A50; by_cases c6 : t305 = true
  ·subst c6; rw [if_pos rfl] at H; replace H := Option.bind_eq_some_iff.mp H; obtain ⟨t306, A70, H⟩ := H; replace H : (impl_DocOk.j0 k l0 (!t306) a1_0 l1_1) = some r := H; have A7 := am_ A70; clear A70; have H' := am_ H; clear H; go_wp2_with (first | ((with_reducible refine gate_callee (f := 28) rfl ?_); refine goesL_ (some 10) rfl rfl Tryd.func28 u23_ rfl #[.slice A0 l0.length c0] rfl u1_ ?_; (with_reducible refine (impl_FieldsOk.calls k _ _ l0 true _ ?side1 ?side2 A5.out).mono ?_); (case side1 => exact u88_); (case side2 => exact u191_); rintro e w8 ⟨rfl, hb⟩; refine ⟨_, rfl, ?_⟩; replace BK304 := am_ (blk_below (g := gb304) (o := .cells #[.string a1_0, .slice A1_1 l1_1.length c1_1] 41 (0, 0)) u39_ hb); replace HB := am_ (below_step u44_ hb); (try clear hb); (try clear hb2); (try clear hk); (try clear hi); have hcz9_0 : w8.cell? ⟨gb304, 0, none⟩ = some (.string a1_0) := (blk_cell BK304.out 0).trans rfl; have hcz9_1 : w8.cell? ⟨gb304, 1, none⟩ = some (.slice A1_1 l1_1.length c1_1) := (blk_cell BK304.out 1).trans rfl; have hfz9_0 := blk_frozen BK304.out 0; have hfz9_1 := blk_frozen BK304.out 1) | (go_at_call 60; (with_reducible refine (impl_wellFormed.calls k a1_0 _ _ l1_1 t306 _ ?side1 ?side2 A7.out).mono ?_); (case side1 => exact u172_); (case side2 => exact HC1_1.out); rintro e w10 ⟨rfl, hb⟩; replace BK304 := am_ (blk_below (g := gb304) (o := .cells #[.string a1_0, .slice A1_1 l1_1.length c1_1] 41 (0, 0)) u39_ hb); replace HB := am_ (below_step u44_ hb); (try clear hb); (try clear hb2); (try clear hk); (try clear hi)))
   go_meet
   case rel => exact ⟨_, (!t306), u35_, H', ⟨u161_⟩, ⟨u39_⟩, ⟨u44_⟩⟩
  ·replace c6 := Bool.eq_false_iff.mpr c6; subst c6; rw [if_neg (show ¬ (false = true) by decide)] at H; have H' := am_ H; clear H; go_wp2_with (first | ((with_reducible refine gate_callee (f := 28) rfl ?_); refine goesL_ (some 10) rfl rfl Tryd.func28 u23_ rfl #[.slice A0 l0.length c0] rfl u1_ ?_; (with_reducible refine (impl_FieldsOk.calls k _ _ l0 false _ ?side1 ?side2 A5.out).mono ?_); (case side1 => exact u88_); (case side2 => exact u191_); rintro e w11 ⟨rfl, hb⟩; refine ⟨_, rfl, ?_⟩; replace BK304 := am_ (blk_below (g := gb304) (o := .cells #[.string a1_0, .slice A1_1 l1_1.length c1_1] 41 (0, 0)) u39_ hb); replace HB := am_ (below_step u44_ hb); (try clear hb); (try clear hb2); (try clear hk); (try clear hi)))
   go_meet
   case rel => exact ⟨_, (true), u35_, H', ⟨u161_⟩, ⟨u39_⟩, ⟨u44_⟩⟩
 case rest =>
  clear HC3; try clear c1
  try clear c2
  try clear p2
  try clear c6
  try clear hcz9_0
  try clear hcz9_1
  try clear hfz9_0
  try clear hfz9_1
  obtain ⟨kq, x16_2, rfl, HA, HJ2, BK304, HB⟩ := hcut; cases kq with
  | zero => exact absurd HA.out (by simp [impl_DocOk.j0])
  | succ kj2 =>
   have H := HA.out; clear HA; simp only [impl_DocOk.j0] at H; by_cases c12 : x16_2 = true
   ·subst c12; rw [if_pos rfl] at H; obtain rfl := Option.some.inj H; go_wp2; go_ret
    exact ⟨u6_, u44_⟩
   ·replace c12 := Bool.eq_false_iff.mpr c12; subst c12; rw [if_neg (show ¬ (false = true) by decide)] at H; have H' := am_ H; clear H; have hcz13_0 : wc.cell? ⟨gb304, 0, none⟩ = some (.string a1_0) := (blk_cell BK304.out 0).trans rfl; have hcz13_1 : wc.cell? ⟨gb304, 1, none⟩ = some (.slice A1_1 l1_1.length c1_1) := (blk_cell BK304.out 1).trans rfl; have hfz13_0 := blk_frozen BK304.out 0; have hfz13_1 := blk_frozen BK304.out 1; go_wp2; go_loopg [20] kj2 (fun kq v20 w' => ∃ (x20_2 : Int), v20 = .int .i64 x20_2 ∧ Aside0 (impl_DocOk.l0 kq l0 l1_1 (l1_1.length : Int) x20_2 = some r) ∧ Aside0 (kq ≤ kj2) ∧ Aside0 (w'.heap[gb304]? = some (.cells #[.string a1_0, (.slice A1_1 l1_1.length c1_1)] 41 (0, 0))) ∧ Aside0 (Below w.heap.size w w'))
    case atStart => exact ⟨(0), u35_, H', ⟨Nat.le_refl _⟩, ⟨u39_⟩, ⟨u44_⟩⟩
    case round =>
     clear H'; try clear c1
     try clear c2
     try clear p2
     try clear c6
     try clear c12
     try clear hcz13_0
     try clear hcz13_1
     try clear hcz9_0
     try clear hcz9_1
     try clear hfz13_0
     try clear hfz13_1
     try clear hfz9_0
     try clear hfz9_1
     try clear p2
     obtain ⟨x20_2, rfl, HA, HK2, BK304, HB⟩ := hrel; cases gk with
     | zero => exact absurd HA.out (by simp [impl_DocOk.l0])
     | succ k2 =>
      have H := HA.out; clear HA; simp only [impl_DocOk.l0] at H; by_cases c14 : x20_2 < (l1_1.length : Int)
      ·rw [if_pos c14] at H; have c14b0 : decide (x20_2 < (l1_1.length : Int)) = true := decide_eq_true c14; clear c14; by_cases c15 : 0 ≤ x20_2
       ·rw [if_pos c15] at H; have c15b0 : decide (0 ≤ x20_2) = true := decide_eq_true c15; clear c15; by_cases c16 : x20_2 < (l1_1.length : Int)
        ·rw [if_pos c16] at H; have c16b0 : decide (x20_2 < (l1_1.length : Int)) = true := decide_eq_true c16; clear c16; replace H := Option.bind_eq_some_iff.mp H; obtain ⟨⟨t309, t310, t311⟩, A170, H⟩ := H; replace H : (if t310 = 1 then (impl_DocOk.l0 k2 l0 l1_1 (l1_1.length : Int) (wrap64 (x20_2 + 1))) else (if t310 = 2 then ((impl_number.f ((rd_T46 l1_1 x20_2).f1)).bind fun bt312 => (if bt312.2 = true then (impl_DocOk.l0 k2 l0 l1_1 (l1_1.length : Int) (wrap64 (x20_2 + 1))) else (some false))) else (if t310 = 3 then ((impl_tagsOk.f k2 ((rd_T46 l1_1 x20_2).f1)).bind fun t314 => (if t314 = true then (impl_DocOk.l0 k2 l0 l1_1 (l1_1.length : Int) (wrap64 (x20_2 + 1))) else (some false))) else (some false)))) = some r := H; have A17 := am_ A170; clear A170; by_cases c18 : t310 = 1
         ·rw [if_pos c18] at H; have c18b0 : (t310 == 1) = true := beq_iff_eq.mpr c18; have c18b1 : (t310 != 1) = false := bne_eq_false_iff_eq.mpr c18; clear c18; have H' := am_ H; clear H; have p307 : 0 ≤ (x20_2 : Int) := of_decide_eq_true u5_; have q307 : x20_2 < (l1_1.length : Int) := of_decide_eq_true u5_; obtain ⟨ad307, e307, hx307_0, hx307_1⟩ := at_T46 HR1_1.out x20_2 p307 q307; cases e307; replace hx307_0 := (HB.out.cell (World.block_lt_of_cell? w _ hx307_0)).trans hx307_0; replace hx307_1 := (HB.out.cell (World.block_lt_of_cell? w _ hx307_1)).trans hx307_1; replace p307 := eq_true p307; replace q307 := eq_true q307; go_wp2_with (first | ((with_reducible refine gate_dst (N := 6) rfl ?_); refine box_event ?hg (N := 6) ?hd (cs := #[.string (⟨#[]⟩ : ByteArray), .string (⟨#[]⟩ : ByteArray)]) (t := 46) ?hr ?_; (case hd => rfl); (case hg => rfl); (case hr => exact u33_); intro gb308 hg w19 hbox hb; have BK308 := am_ (hbox); have GW308 := am_ ((by rw [hg]; exact (below_size u44_) : w.heap.size ≤ gb308)); have GE308 := GW308; replace HB := am_ (below_step u44_ hb); have NB304_308 := am_ ((by rw [hg]; exact Nat.ne_of_lt (blk_lt (g := gb304) (o := .cells #[.string a1_0, .slice (some ad307) l1_1.length c1_1] 41 (0, 0)) u39_) : gb304 ≠ gb308)); have NB308_304 := am_ ((by rw [hg]; exact Nat.ne_of_gt (blk_lt (g := gb304) (o := .cells #[.string a1_0, .slice (some ad307) l1_1.length c1_1] 41 (0, 0)) u39_) : gb308 ≠ gb304)); replace BK304 := am_ (blk_below (g := gb304) (o := .cells #[.string a1_0, .slice (some ad307) l1_1.length c1_1] 41 (0, 0)) u39_ hb); clear hb hbox hg; have hnb20 := NB308_304.out; have hnc20 := NB304_308.out; have hcz21_0 : w19.cell? ⟨gb308, 0, none⟩ = some (.string (⟨#[]⟩ : ByteArray)) := (blk_cell BK308.out 0).trans rfl; have hcz21_1 : w19.cell? ⟨gb308, 1, none⟩ = some (.string (⟨#[]⟩ : ByteArray)) := (blk_cell BK308.out 1).trans rfl; have hfz21_0 := blk_frozen BK308.out 0; have hfz21_1 := blk_frozen BK308.out 1) | ((with_reducible refine gate_callee (f := 61) rfl ?_); refine goesL_ (some 27) rfl rfl Tryd.func61 u23_ rfl #[.slice A0 l0.length c0, .string ((rd_T46 l1_1 x20_2).f0)] rfl u1_ ?_; (with_reducible refine (impl_fieldOf.calls k2 _ _ l0 ((rd_T46 l1_1 x20_2).f0) t309 t310 t311 _ ?side1 ?side2 A17.out).mono ?_); (case side1 => exact u245_); (case side2 => exact u191_); rintro e w22 ⟨rfl, hb⟩; refine ⟨_, rfl, ?_⟩; replace BK304 := am_ (blk_below (g := gb304) (o := .cells #[.string a1_0, .slice (some ad307) l1_1.length c1_1] 41 (0, 0)) u59_ hb); replace BK308 := am_ (blk_below (g := gb308) (o := .cells #[.string ((rd_T46 l1_1 x20_2).f0), .string ((rd_T46 l1_1 x20_2).f1)] 46 (0, 0)) u46_ hb); replace HB := am_ (below_step u28_ hb); (try clear hb); (try clear hb2); (try clear hk); (try clear hi)))
          go_roundg k2
          case measure => have := HJ2.out; have := HK2.out; omega
          case rel => exact ⟨(wrap64 (x20_2 + 1)), u35_, H', ⟨by have := HJ2.out; have := HK2.out; omega⟩, ⟨u39_⟩, ⟨u28_⟩⟩
         ·rw [if_neg c18] at H; have c18b0 : (t310 == 1) = false := beq_eq_false_iff_ne.mpr c18; have c18b1 : (t310 != 1) = true := bne_iff_ne.mpr c18; by_cases c23 : t310 = 2
          ·rw [if_pos c23] at H; have c23b0 : (t310 == 2) = true := beq_iff_eq.mpr c23; have c23b1 : (t310 != 2) = false := bne_eq_false_iff_eq.mpr c23; clear c23; replace H := Option.bind_eq_some_iff.mp H; obtain ⟨⟨t312, t313⟩, A240, H⟩ := H; replace H : (if t313 = true then (impl_DocOk.l0 k2 l0 l1_1 (l1_1.length : Int) (wrap64 (x20_2 + 1))) else (some false)) = some r := H; have A24 := am_ A240; clear A240; by_cases c25 : t313 = true
           ·subst c25; rw [if_pos rfl] at H; have H' := am_ H; clear H; have p307 : 0 ≤ (x20_2 : Int) := of_decide_eq_true u5_; have q307 : x20_2 < (l1_1.length : Int) := of_decide_eq_true u5_; obtain ⟨ad307, e307, hx307_0, hx307_1⟩ := at_T46 HR1_1.out x20_2 p307 q307; cases e307; replace hx307_0 := (HB.out.cell (World.block_lt_of_cell? w _ hx307_0)).trans hx307_0; replace hx307_1 := (HB.out.cell (World.block_lt_of_cell? w _ hx307_1)).trans hx307_1; replace p307 := eq_true p307; replace q307 := eq_true q307; go_wp2_with (first | ((with_reducible refine gate_dst (N := 6) rfl ?_); refine box_event ?hg (N := 6) ?hd (cs := #[.string (⟨#[]⟩ : ByteArray), .string (⟨#[]⟩ : ByteArray)]) (t := 46) ?hr ?_; (case hd => rfl); (case hg => rfl); (case hr => exact u33_); intro gb308 hg w26 hbox hb; have BK308 := am_ (hbox); have GW308 := am_ ((by rw [hg]; exact (below_size u44_) : w.heap.size ≤ gb308)); have GE308 := GW308; replace HB := am_ (below_step u44_ hb); have NB304_308 := am_ ((by rw [hg]; exact Nat.ne_of_lt (blk_lt (g := gb304) (o := .cells #[.string a1_0, .slice (some ad307) l1_1.length c1_1] 41 (0, 0)) u39_) : gb304 ≠ gb308)); have NB308_304 := am_ ((by rw [hg]; exact Nat.ne_of_gt (blk_lt (g := gb304) (o := .cells #[.string a1_0, .slice (some ad307) l1_1.length c1_1] 41 (0, 0)) u39_) : gb308 ≠ gb304)); replace BK304 := am_ (blk_below (g := gb304) (o := .cells #[.string a1_0, .slice (some ad307) l1_1.length c1_1] 41 (0, 0)) u39_ hb); clear hb hbox hg; have hnb27 := NB308_304.out; have hnc27 := NB304_308.out; have hcz28_0 : w26.cell? ⟨gb308, 0, none⟩ = some (.string (⟨#[]⟩ : ByteArray)) := (blk_cell BK308.out 0).trans rfl; have hcz28_1 : w26.cell? ⟨gb308, 1, none⟩ = some (.string (⟨#[]⟩ : ByteArray)) := (blk_cell BK308.out 1).trans rfl; have hfz28_0 := blk_frozen BK308.out 0; have hfz28_1 := blk_frozen BK308.out 1) | ((with_reducible refine gate_callee (f := 61) rfl ?_); refine goesL_ (some 27) rfl rfl Tryd.func61 u23_ rfl #[.slice A0 l0.length c0, .string ((rd_T46 l1_1 x20_2).f0)] rfl u1_ ?_; (with_reducible refine (impl_fieldOf.calls k2 _ _ l0 ((rd_T46 l1_1 x20_2).f0) t309 t310 t311 _ ?side1 ?side2 A17.out).mono ?_); (case side1 => exact u245_); (case side2 => exact u191_); rintro e w29 ⟨rfl, hb⟩; refine ⟨_, rfl, ?_⟩; replace BK304 := am_ (blk_below (g := gb304) (o := .cells #[.string a1_0, .slice (some ad307) l1_1.length c1_1] 41 (0, 0)) u59_ hb); replace BK308 := am_ (blk_below (g := gb308) (o := .cells #[.string ((rd_T46 l1_1 x20_2).f0), .string ((rd_T46 l1_1 x20_2).f1)] 46 (0, 0)) u46_ hb); replace HB := am_ (below_step u28_ hb); (try clear hb); (try clear hb2); (try clear hk); (try clear hi); have hcz30_0 : w29.cell? ⟨gb308, 0, none⟩ = some (.string ((rd_T46 l1_1 x20_2).f0)) := (blk_cell BK308.out 0).trans rfl; have hcz30_1 : w29.cell? ⟨gb308, 1, none⟩ = some (.string ((rd_T46 l1_1 x20_2).f1)) := (blk_cell BK308.out 1).trans rfl; have hfz30_0 := blk_frozen BK308.out 0; have hfz30_1 := blk_frozen BK308.out 1) | ((with_reducible refine gate_callee (f := 45) rfl ?_); refine goesL_ (some 36) rfl rfl Tryd.func45 u23_ rfl #[.string ((rd_T46 l1_1 x20_2).f1)] rfl u1_ ?_; (with_reducible refine (impl_number.calls ((rd_T46 l1_1 x20_2).f1) t312 true _ ?side1 A24.out).mono ?_); (case side1 => exact StopsIn.below HG_.out u28_); rintro e w31 ⟨rfl, hb⟩; refine ⟨_, rfl, ?_⟩; replace BK304 := am_ (blk_below (g := gb304) (o := .cells #[.string a1_0, .slice (some ad307) l1_1.length c1_1] 41 (0, 0)) u39_ hb); replace BK308 := am_ (blk_below (g := gb308) (o := .cells #[.string ((rd_T46 l1_1 x20_2).f0), .string ((rd_T46 l1_1 x20_2).f1)] 46 (0, 0)) u147_ hb); replace HB := am_ (below_step u28_ hb); (try clear hb); (try clear hb2); (try clear hk); (try clear hi)))
            go_roundg k2
            case measure => have := HJ2.out; have := HK2.out; omega
            case rel => exact ⟨(wrap64 (x20_2 + 1)), u35_, H', ⟨by have := HJ2.out; have := HK2.out; omega⟩, ⟨u39_⟩, ⟨u28_⟩⟩
           ·replace c25 := Bool.eq_false_iff.mpr c25; subst c25; rw [if_neg (show ¬ (false = true) by decide)] at H; obtain rfl := Option.some.inj H; have p307 : 0 ≤ (x20_2 : Int) := of_decide_eq_true u5_; have q307 : x20_2 < (l1_1.length : Int) := of_decide_eq_true u5_; obtain ⟨ad307, e307, hx307_0, hx307_1⟩ := at_T46 HR1_1.out x20_2 p307 q307; cases e307; replace hx307_0 := (HB.out.cell (World.block_lt_of_cell? w _ hx307_0)).trans hx307_0; replace hx307_1 := (HB.out.cell (World.block_lt_of_cell? w _ hx307_1)).trans hx307_1; replace p307 := eq_true p307; replace q307 := eq_true q307; go_wp2_with (first | ((with_reducible refine gate_dst (N := 6) rfl ?_); refine box_event ?hg (N := 6) ?hd (cs := #[.string (⟨#[]⟩ : ByteArray), .string (⟨#[]⟩ : ByteArray)]) (t := 46) ?hr ?_; (case hd => rfl); (case hg => rfl); (case hr => exact u33_); intro gb308 hg w32 hbox hb; have BK308 := am_ (hbox); have GW308 := am_ ((by rw [hg]; exact (below_size u44_) : w.heap.size ≤ gb308)); have GE308 := GW308; replace HB := am_ (below_step u44_ hb); have NB304_308 := am_ ((by rw [hg]; exact Nat.ne_of_lt (blk_lt (g := gb304) (o := .cells #[.string a1_0, .slice (some ad307) l1_1.length c1_1] 41 (0, 0)) u39_) : gb304 ≠ gb308)); have NB308_304 := am_ ((by rw [hg]; exact Nat.ne_of_gt (blk_lt (g := gb304) (o := .cells #[.string a1_0, .slice (some ad307) l1_1.length c1_1] 41 (0, 0)) u39_) : gb308 ≠ gb304)); replace BK304 := am_ (blk_below (g := gb304) (o := .cells #[.string a1_0, .slice (some ad307) l1_1.length c1_1] 41 (0, 0)) u39_ hb); clear hb hbox hg; have hnb33 := NB308_304.out; have hnc33 := NB304_308.out; have hcz34_0 : w32.cell? ⟨gb308, 0, none⟩ = some (.string (⟨#[]⟩ : ByteArray)) := (blk_cell BK308.out 0).trans rfl; have hcz34_1 : w32.cell? ⟨gb308, 1, none⟩ = some (.string (⟨#[]⟩ : ByteArray)) := (blk_cell BK308.out 1).trans rfl; have hfz34_0 := blk_frozen BK308.out 0; have hfz34_1 := blk_frozen BK308.out 1) | ((with_reducible refine gate_callee (f := 61) rfl ?_); refine goesL_ (some 27) rfl rfl Tryd.func61 u23_ rfl #[.slice A0 l0.length c0, .string ((rd_T46 l1_1 x20_2).f0)] rfl u1_ ?_; (with_reducible refine (impl_fieldOf.calls k2 _ _ l0 ((rd_T46 l1_1 x20_2).f0) t309 t310 t311 _ ?side1 ?side2 A17.out).mono ?_); (case side1 => exact u245_); (case side2 => exact u191_); rintro e w35 ⟨rfl, hb⟩; refine ⟨_, rfl, ?_⟩; replace BK304 := am_ (blk_below (g := gb304) (o := .cells #[.string a1_0, .slice (some ad307) l1_1.length c1_1] 41 (0, 0)) u59_ hb); replace BK308 := am_ (blk_below (g := gb308) (o := .cells #[.string ((rd_T46 l1_1 x20_2).f0), .string ((rd_T46 l1_1 x20_2).f1)] 46 (0, 0)) u46_ hb); replace HB := am_ (below_step u28_ hb); (try clear hb); (try clear hb2); (try clear hk); (try clear hi); have hcz36_0 : w35.cell? ⟨gb308, 0, none⟩ = some (.string ((rd_T46 l1_1 x20_2).f0)) := (blk_cell BK308.out 0).trans rfl; have hcz36_1 : w35.cell? ⟨gb308, 1, none⟩ = some (.string ((rd_T46 l1_1 x20_2).f1)) := (blk_cell BK308.out 1).trans rfl; have hfz36_0 := blk_frozen BK308.out 0; have hfz36_1 := blk_frozen BK308.out 1) | ((with_reducible refine gate_callee (f := 45) rfl ?_); refine goesL_ (some 36) rfl rfl Tryd.func45 u23_ rfl #[.string ((rd_T46 l1_1 x20_2).f1)] rfl u1_ ?_; (with_reducible refine (impl_number.calls ((rd_T46 l1_1 x20_2).f1) t312 false _ ?side1 A24.out).mono ?_); (case side1 => exact StopsIn.below HG_.out u28_); rintro e w37 ⟨rfl, hb⟩; refine ⟨_, rfl, ?_⟩; replace BK304 := am_ (blk_below (g := gb304) (o := .cells #[.string a1_0, .slice (some ad307) l1_1.length c1_1] 41 (0, 0)) u39_ hb); replace BK308 := am_ (blk_below (g := gb308) (o := .cells #[.string ((rd_T46 l1_1 x20_2).f0), .string ((rd_T46 l1_1 x20_2).f1)] 46 (0, 0)) u147_ hb); replace HB := am_ (below_step u28_ hb); (try clear hb); (try clear hb2); (try clear hk); (try clear hi)))
            go_ret
            exact ⟨u6_, u28_⟩
          ·rw [if_neg c23] at H; have c23b0 : (t310 == 2) = false := beq_eq_false_iff_ne.mpr c23; have c23b1 : (t310 != 2) = true := bne_iff_ne.mpr c23; by_cases c38 : t310 = 3
           ·rw [if_pos c38] at H; have c38b0 : (t310 == 3) = true := beq_iff_eq.mpr c38; have c38b1 : (t310 != 3) = false := bne_eq_false_iff_eq.mpr c38; clear c38; replace H := Option.bind_eq_some_iff.mp H; obtain ⟨t314, A390, H⟩ := H; replace H : (if t314 = true then (impl_DocOk.l0 k2 l0 l1_1 (l1_1.length : Int) (wrap64 (x20_2 + 1))) else (some false)) = some r := H; have A39 := am_ A390; clear A390; by_cases c40 : t314 = true
            ·subst c40; rw [if_pos rfl] at H; have H' := am_ H; clear H; have p307 : 0 ≤ (x20_2 : Int) := of_decide_eq_true u5_; have q307 : x20_2 < (l1_1.length : Int) := of_decide_eq_true u5_; obtain ⟨ad307, e307, hx307_0, hx307_1⟩ := at_T46 HR1_1.out x20_2 p307 q307; cases e307; replace hx307_0 := (HB.out.cell (World.block_lt_of_cell? w _ hx307_0)).trans hx307_0; replace hx307_1 := (HB.out.cell (World.block_lt_of_cell? w _ hx307_1)).trans hx307_1; replace p307 := eq_true p307; replace q307 := eq_true q307; go_wp2_with (first | ((with_reducible refine gate_dst (N := 6) rfl ?_); refine box_event ?hg (N := 6) ?hd (cs := #[.string (⟨#[]⟩ : ByteArray), .string (⟨#[]⟩ : ByteArray)]) (t := 46) ?hr ?_; (case hd => rfl); (case hg => rfl); (case hr => exact u33_); intro gb308 hg w41 hbox hb; have BK308 := am_ (hbox); have GW308 := am_ ((by rw [hg]; exact (below_size u44_) : w.heap.size ≤ gb308)); have GE308 := GW308; replace HB := am_ (below_step u44_ hb); have NB304_308 := am_ ((by rw [hg]; exact Nat.ne_of_lt (blk_lt (g := gb304) (o := .cells #[.string a1_0, .slice (some ad307) l1_1.length c1_1] 41 (0, 0)) u39_) : gb304 ≠ gb308)); have NB308_304 := am_ ((by rw [hg]; exact Nat.ne_of_gt (blk_lt (g := gb304) (o := .cells #[.string a1_0, .slice (some ad307) l1_1.length c1_1] 41 (0, 0)) u39_) : gb308 ≠ gb304)); replace BK304 := am_ (blk_below (g := gb304) (o := .cells #[.string a1_0, .slice (some ad307) l1_1.length c1_1] 41 (0, 0)) u39_ hb); clear hb hbox hg; have hnb42 := NB308_304.out; have hnc42 := NB304_308.out; have hcz43_0 : w41.cell? ⟨gb308, 0, none⟩ = some (.string (⟨#[]⟩ : ByteArray)) := (blk_cell BK308.out 0).trans rfl; have hcz43_1 : w41.cell? ⟨gb308, 1, none⟩ = some (.string (⟨#[]⟩ : ByteArray)) := (blk_cell BK308.out 1).trans rfl; have hfz43_0 := blk_frozen BK308.out 0; have hfz43_1 := blk_frozen BK308.out 1) | ((with_reducible refine gate_callee (f := 61) rfl ?_); refine goesL_ (some 27) rfl rfl Tryd.func61 u23_ rfl #[.slice A0 l0.length c0, .string ((rd_T46 l1_1 x20_2).f0)] rfl u1_ ?_; (with_reducible refine (impl_fieldOf.calls k2 _ _ l0 ((rd_T46 l1_1 x20_2).f0) t309 t310 t311 _ ?side1 ?side2 A17.out).mono ?_); (case side1 => exact u245_); (case side2 => exact u191_); rintro e w44 ⟨rfl, hb⟩; refine ⟨_, rfl, ?_⟩; replace BK304 := am_ (blk_below (g := gb304) (o := .cells #[.string a1_0, .slice (some ad307) l1_1.length c1_1] 41 (0, 0)) u59_ hb); replace BK308 := am_ (blk_below (g := gb308) (o := .cells #[.string ((rd_T46 l1_1 x20_2).f0), .string ((rd_T46 l1_1 x20_2).f1)] 46 (0, 0)) u46_ hb); replace HB := am_ (below_step u28_ hb); (try clear hb); (try clear hb2); (try clear hk); (try clear hi); have hcz45_0 : w44.cell? ⟨gb308, 0, none⟩ = some (.string ((rd_T46 l1_1 x20_2).f0)) := (blk_cell BK308.out 0).trans rfl; have hcz45_1 : w44.cell? ⟨gb308, 1, none⟩ = some (.string ((rd_T46 l1_1 x20_2).f1)) := (blk_cell BK308.out 1).trans rfl; have hfz45_0 := blk_frozen BK308.out 0; have hfz45_1 := blk_frozen BK308.out 1) | ((with_reducible refine gate_callee (f := 62) rfl ?_); refine goesL_ (some 45) rfl rfl Tryd.func62 u23_ rfl #[.string ((rd_T46 l1_1 x20_2).f1)] rfl u1_ ?_; (with_reducible refine (impl_tagsOk.calls k2 ((rd_T46 l1_1 x20_2).f1) true _ ?side1 A39.out).mono ?_); (case side1 => exact StopsIn.below HG_.out u28_); rintro e w46 ⟨rfl, hb⟩; refine ⟨_, rfl, ?_⟩; replace BK304 := am_ (blk_below (g := gb304) (o := .cells #[.string a1_0, .slice (some ad307) l1_1.length c1_1] 41 (0, 0)) u39_ hb); replace BK308 := am_ (blk_below (g := gb308) (o := .cells #[.string ((rd_T46 l1_1 x20_2).f0), .string ((rd_T46 l1_1 x20_2).f1)] 46 (0, 0)) u147_ hb); replace HB := am_ (below_step u28_ hb); (try clear hb); (try clear hb2); (try clear hk); (try clear hi)))
             go_roundg k2
             case measure => have := HJ2.out; have := HK2.out; omega
             case rel => exact ⟨(wrap64 (x20_2 + 1)), u35_, H', ⟨by have := HJ2.out; have := HK2.out; omega⟩, ⟨u39_⟩, ⟨u28_⟩⟩
            ·replace c40 := Bool.eq_false_iff.mpr c40; subst c40; rw [if_neg (show ¬ (false = true) by decide)] at H; obtain rfl := Option.some.inj H; have p307 : 0 ≤ (x20_2 : Int) := of_decide_eq_true u5_; have q307 : x20_2 < (l1_1.length : Int) := of_decide_eq_true u5_; obtain ⟨ad307, e307, hx307_0, hx307_1⟩ := at_T46 HR1_1.out x20_2 p307 q307; cases e307; replace hx307_0 := (HB.out.cell (World.block_lt_of_cell? w _ hx307_0)).trans hx307_0; replace hx307_1 := (HB.out.cell (World.block_lt_of_cell? w _ hx307_1)).trans hx307_1; replace p307 := eq_true p307; replace q307 := eq_true q307; go_wp2_with (first | ((with_reducible refine gate_dst (N := 6) rfl ?_); refine box_event ?hg (N := 6) ?hd (cs := #[.string (⟨#[]⟩ : ByteArray), .string (⟨#[]⟩ : ByteArray)]) (t := 46) ?hr ?_; (case hd => rfl); (case hg => rfl); (case hr => exact u33_); intro gb308 hg w47 hbox hb; have BK308 := am_ (hbox); have GW308 := am_ ((by rw [hg]; exact (below_size u44_) : w.heap.size ≤ gb308)); have GE308 := GW308; replace HB := am_ (below_step u44_ hb); have NB304_308 := am_ ((by rw [hg]; exact Nat.ne_of_lt (blk_lt (g := gb304) (o := .cells #[.string a1_0, .slice (some ad307) l1_1.length c1_1] 41 (0, 0)) u39_) : gb304 ≠ gb308)); have NB308_304 := am_ ((by rw [hg]; exact Nat.ne_of_gt (blk_lt (g := gb304) (o := .cells #[.string a1_0, .slice (some ad307) l1_1.length c1_1] 41 (0, 0)) u39_) : gb308 ≠ gb304)); replace BK304 := am_ (blk_below (g := gb304) (o := .cells #[.string a1_0, .slice (some ad307) l1_1.length c1_1] 41 (0, 0)) u39_ hb); clear hb hbox hg; have hnb48 := NB308_304.out; have hnc48 := NB304_308.out; have hcz49_0 : w47.cell? ⟨gb308, 0, none⟩ = some (.string (⟨#[]⟩ : ByteArray)) := (blk_cell BK308.out 0).trans rfl; have hcz49_1 : w47.cell? ⟨gb308, 1, none⟩ = some (.string (⟨#[]⟩ : ByteArray)) := (blk_cell BK308.out 1).trans rfl; have hfz49_0 := blk_frozen BK308.out 0; have hfz49_1 := blk_frozen BK308.out 1) | ((with_reducible refine gate_callee (f := 61) rfl ?_); refine goesL_ (some 27) rfl rfl Tryd.func61 u23_ rfl #[.slice A0 l0.length c0, .string ((rd_T46 l1_1 x20_2).f0)] rfl u1_ ?_; (with_reducible refine (impl_fieldOf.calls k2 _ _ l0 ((rd_T46 l1_1 x20_2).f0) t309 t310 t311 _ ?side1 ?side2 A17.out).mono ?_); (case side1 => exact u245_); (case side2 => exact u191_); rintro e w50 ⟨rfl, hb⟩; refine ⟨_, rfl, ?_⟩; replace BK304 := am_ (blk_below (g := gb304) (o := .cells #[.string a1_0, .slice (some ad307) l1_1.length c1_1] 41 (0, 0)) u59_ hb); replace BK308 := am_ (blk_below (g := gb308) (o := .cells #[.string ((rd_T46 l1_1 x20_2).f0), .string ((rd_T46 l1_1 x20_2).f1)] 46 (0, 0)) u46_ hb); replace HB := am_ (below_step u28_ hb); (try clear hb); (try clear hb2); (try clear hk); (try clear hi); have hcz51_0 : w50.cell? ⟨gb308, 0, none⟩ = some (.string ((rd_T46 l1_1 x20_2).f0)) := (blk_cell BK308.out 0).trans rfl; have hcz51_1 : w50.cell? ⟨gb308, 1, none⟩ = some (.string ((rd_T46 l1_1 x20_2).f1)) := (blk_cell BK308.out 1).trans rfl; have hfz51_0 := blk_frozen BK308.out 0; have hfz51_1 := blk_frozen BK308.out 1) | ((with_reducible refine gate_callee (f := 62) rfl ?_); refine goesL_ (some 45) rfl rfl Tryd.func62 u23_ rfl #[.string ((rd_T46 l1_1 x20_2).f1)] rfl u1_ ?_; (with_reducible refine (impl_tagsOk.calls k2 ((rd_T46 l1_1 x20_2).f1) false _ ?side1 A39.out).mono ?_); (case side1 => exact StopsIn.below HG_.out u28_); rintro e w52 ⟨rfl, hb⟩; refine ⟨_, rfl, ?_⟩; replace BK304 := am_ (blk_below (g := gb304) (o := .cells #[.string a1_0, .slice (some ad307) l1_1.length c1_1] 41 (0, 0)) u39_ hb); replace BK308 := am_ (blk_below (g := gb308) (o := .cells #[.string ((rd_T46 l1_1 x20_2).f0), .string ((rd_T46 l1_1 x20_2).f1)] 46 (0, 0)) u147_ hb); replace HB := am_ (below_step u28_ hb); (try clear hb); (try clear hb2); (try clear hk); (try clear hi)))
             go_ret
             exact ⟨u6_, u28_⟩
           ·rw [if_neg c38] at H; have c38b0 : (t310 == 3) = false := beq_eq_false_iff_ne.mpr c38; have c38b1 : (t310 != 3) = true := bne_iff_ne.mpr c38; obtain rfl := Option.some.inj H; have p307 : 0 ≤ (x20_2 : Int) := of_decide_eq_true u5_; have q307 : x20_2 < (l1_1.length : Int) := of_decide_eq_true u5_; obtain ⟨ad307, e307, hx307_0, hx307_1⟩ := at_T46 HR1_1.out x20_2 p307 q307; cases e307; replace hx307_0 := (HB.out.cell (World.block_lt_of_cell? w _ hx307_0)).trans hx307_0; replace hx307_1 := (HB.out.cell (World.block_lt_of_cell? w _ hx307_1)).trans hx307_1; replace p307 := eq_true p307; replace q307 := eq_true q307; go_wp2_with (first | ((with_reducible refine gate_dst (N := 6) rfl ?_); refine box_event ?hg (N := 6) ?hd (cs := #[.string (⟨#[]⟩ : ByteArray), .string (⟨#[]⟩ : ByteArray)]) (t := 46) ?hr ?_; (case hd => rfl); (case hg => rfl); (case hr => exact u33_); intro gb308 hg w53 hbox hb; have BK308 := am_ (hbox); have GW308 := am_ ((by rw [hg]; exact (below_size u44_) : w.heap.size ≤ gb308)); have GE308 := GW308; replace HB := am_ (below_step u44_ hb); have NB304_308 := am_ ((by rw [hg]; exact Nat.ne_of_lt (blk_lt (g := gb304) (o := .cells #[.string a1_0, .slice (some ad307) l1_1.length c1_1] 41 (0, 0)) u39_) : gb304 ≠ gb308)); have NB308_304 := am_ ((by rw [hg]; exact Nat.ne_of_gt (blk_lt (g := gb304) (o := .cells #[.string a1_0, .slice (some ad307) l1_1.length c1_1] 41 (0, 0)) u39_) : gb308 ≠ gb304)); replace BK304 := am_ (blk_below (g := gb304) (o := .cells #[.string a1_0, .slice (some ad307) l1_1.length c1_1] 41 (0, 0)) u39_ hb); clear hb hbox hg; have hnb54 := NB308_304.out; have hnc54 := NB304_308.out; have hcz55_0 : w53.cell? ⟨gb308, 0, none⟩ = some (.string (⟨#[]⟩ : ByteArray)) := (blk_cell BK308.out 0).trans rfl; have hcz55_1 : w53.cell? ⟨gb308, 1, none⟩ = some (.string (⟨#[]⟩ : ByteArray)) := (blk_cell BK308.out 1).trans rfl; have hfz55_0 := blk_frozen BK308.out 0; have hfz55_1 := blk_frozen BK308.out 1) | ((with_reducible refine gate_callee (f := 61) rfl ?_); refine goesL_ (some 27) rfl rfl Tryd.func61 u23_ rfl #[.slice A0 l0.length c0, .string ((rd_T46 l1_1 x20_2).f0)] rfl u1_ ?_; (with_reducible refine (impl_fieldOf.calls k2 _ _ l0 ((rd_T46 l1_1 x20_2).f0) t309 t310 t311 _ ?side1 ?side2 A17.out).mono ?_); (case side1 => exact u245_); (case side2 => exact u191_); rintro e w56 ⟨rfl, hb⟩; refine ⟨_, rfl, ?_⟩; replace BK304 := am_ (blk_below (g := gb304) (o := .cells #[.string a1_0, .slice (some ad307) l1_1.length c1_1] 41 (0, 0)) u59_ hb); replace BK308 := am_ (blk_below (g := gb308) (o := .cells #[.string ((rd_T46 l1_1 x20_2).f0), .string ((rd_T46 l1_1 x20_2).f1)] 46 (0, 0)) u46_ hb); replace HB := am_ (below_step u28_ hb); (try clear hb); (try clear hb2); (try clear hk); (try clear hi)))
            go_ret
            exact ⟨u6_, u28_⟩
        ·exact u248_
       ·exact u249_
      ·rw [if_neg c14] at H; have c14b0 : decide (x20_2 < (l1_1.length : Int)) = false := decide_eq_false c14; clear c14; obtain rfl := Option.some.inj H; go_wp2; go_ret
       exact ⟨u6_, u44_⟩

/-! ### spec_l1In: function 68 -/
def spec_l1In.f (a0 : Int) (a1 : Int) (a2 : Int) : Option (Bool) := if a0 ≥ a1 then (some (decide (a0 ≤ a2))) else (some false)
set_option maxHeartbeats 8000000 in
set_option maxRecDepth 100000 in
theorem spec_l1In.calls (a0 : Int) (a1 : Int) (a2 : Int) (r : Bool) (w : World) (h : spec_l1In.f a0 a1 a2 = some r) :
  Calls Tryd.prog 68 #[.int .i64 a0, .int .i64 a1, .int .i64 a2] w fun e w' => e = .returned (.bool r) ∧ Drawn0 w w' := by
 have H : (if a0 ≥ a1 then (some (decide (a0 ≤ a2))) else (some false)) = some r := h; clear h; by_cases c4 : a0 ≥ a1
 ·rw [if_pos c4] at H; have c4b0 : decide (a1 ≤ a0) = true := decide_eq_true c4; clear c4; obtain rfl := Option.some.inj H; go_enter Tryd.func68, Tryd.ntmps68
  go_wp2; go_ret
  exact ⟨u45_, u41_⟩
 ·rw [if_neg c4] at H; have c4b0 : decide (a1 ≤ a0) = false := decide_eq_false c4; clear c4; obtain rfl := Option.some.inj H; go_enter Tryd.func68, Tryd.ntmps68
  go_wp2; go_ret
  exact ⟨u45_, u41_⟩

/-! ### spec_NameOk: function 69 -/
def spec_NameOk.l0 : Nat → ByteArray → Int → Option (Bool)
 | 0, _, _ => none
 | k + 1, x0, x3 => if x3 < (x0.size : Int) then (if 0 ≤ x3 then (if (bt x0 x3) ≥ 97 then (if ((bt x0 x3) ≤ 122) then (spec_NameOk.l0 k x0 (wrap64 (x3 + 1))) else (if x3 = 0 then (some false) else (if (bt x0 x3) < 48 then (some false) else (if (bt x0 x3) > 57 then (some false) else (spec_NameOk.l0 k x0 (wrap64 (x3 + 1))))))) else (if x3 = 0 then (some false) else (if (bt x0 x3) < 48 then (some false) else (if (bt x0 x3) > 57 then (some false) else (spec_NameOk.l0 k x0 (wrap64 (x3 + 1))))))) else (none)) else ((spec_l1In.f (x0.size : Int) 1 8).bind fun t315 => (some t315))
def spec_NameOk.f (k : Nat) (a0 : ByteArray) : Option (Bool) := spec_NameOk.l0 k a0 0
theorem spec_NameOk.mono_l : ∀ k, (∀ y0 y1, LeO (spec_NameOk.l0 k y0 y1) (spec_NameOk.l0 (k + 1) y0 y1))
 | 0 => fun _ _ r h => by simp [spec_NameOk.l0] at h
 | k + 1 => by
  have ih0 := spec_NameOk.mono_l k
  ·intro y0 y1; unfold spec_NameOk.l0
   repeat' first
   | (with_reducible exact ih0 _ _)
   | (with_reducible exact LeO.refl _)
   | (with_reducible exact LeO.none _)
   | (with_reducible refine LeO.ite ?_ ?_)
   | (with_reducible refine LeO.bind ?_ (fun _ => ?_))
   | exact ih0 _ _
   | exact LeO.none _
   | refine LeO.ite ?_ ?_
   | refine LeO.bind ?_ (fun _ => ?_)
theorem spec_NameOk.mono : ∀ a0 k, LeO (spec_NameOk.f k a0) (spec_NameOk.f (k + 1) a0) := by
 intro a0 k; have ih0 := spec_NameOk.mono_l k; unfold spec_NameOk.f
 repeat' first
   | (with_reducible exact ih0 _ _)
   | (with_reducible exact LeO.refl _)
   | (with_reducible exact LeO.none _)
   | (with_reducible refine LeO.ite ?_ ?_)
   | (with_reducible refine LeO.bind ?_ (fun _ => ?_))
   | exact ih0 _ _
   | exact LeO.none _
   | refine LeO.ite ?_ ?_
   | refine LeO.bind ?_ (fun _ => ?_)
set_option maxHeartbeats 8000000 in
set_option maxRecDepth 100000 in
theorem spec_NameOk.calls (k : Nat) (a0 : ByteArray) (r : Bool) (w : World) (h : spec_NameOk.f k a0 = some r) :
  Calls Tryd.prog 69 #[.string a0] w fun e w' => e = .returned (.bool r) ∧ Drawn0 w w' := by
 have H : (spec_NameOk.l0 k a0 0) = some r := h; clear h; have H' := am_ H; clear H; go_enter Tryd.func69, Tryd.ntmps69
 go_wp2; go_loopg [3] k (fun kq v3 w' => ∃ (x3_1 : Int), v3 = .int .i64 x3_1 ∧ Aside0 (spec_NameOk.l0 kq a0 x3_1 = some r) ∧ Aside0 (kq ≤ k) ∧ Drawn0 w w')
 case atStart => exact ⟨(0), u35_, H', ⟨Nat.le_refl _⟩, u41_⟩
 case round =>
  clear H'; obtain ⟨x3_1, rfl, HA, HK1, ⟨m1, rfl⟩⟩ := hrel; cases gk with
  | zero => exact absurd HA.out (by simp [spec_NameOk.l0])
  | succ k1 =>
   have H := HA.out; clear HA; simp only [spec_NameOk.l0] at H; by_cases c2 : x3_1 < (a0.size : Int)
   ·rw [if_pos c2] at H; have c2b0 : decide (x3_1 < (a0.size : Int)) = true := decide_eq_true c2; clear c2; by_cases c3 : 0 ≤ x3_1
    ·rw [if_pos c3] at H; have c3b0 : decide (0 ≤ x3_1) = true := decide_eq_true c3; clear c3; by_cases c5 : (bt a0 x3_1) ≥ 97
     ·rw [if_pos c5] at H; have c5b0 : decide (97 ≤ (bt a0 x3_1)) = true := decide_eq_true c5; clear c5; by_cases c7 : ((bt a0 x3_1) ≤ 122)
      ·rw [if_pos c7] at H; have c7b0 : decide ((bt a0 x3_1) ≤ 122) = true := decide_eq_true c7; clear c7; have H' := am_ H; clear H; have p4 : 0 ≤ (x3_1 : Int) := of_decide_eq_true u5_; have q4 : x3_1 < (a0.size : Int) := of_decide_eq_true u5_; have hx4 := bt_at a0 x3_1; replace p4 := eq_true p4; replace q4 := eq_true q4; have p6 : 0 ≤ (x3_1 : Int) := of_decide_eq_true u5_; have q6 : x3_1 < (a0.size : Int) := of_decide_eq_true u5_; have hx6 := bt_at a0 x3_1; replace p6 := eq_true p6; replace q6 := eq_true q6; go_wp2; go_roundg k1
       case measure => have := HK1.out; omega
       case rel => exact ⟨(wrap64 (x3_1 + 1)), u35_, H', ⟨u131_⟩, u41_⟩
      ·rw [if_neg c7] at H; have c7b0 : decide ((bt a0 x3_1) ≤ 122) = false := decide_eq_false c7; clear c7; by_cases c8 : x3_1 = 0
       ·rw [if_pos c8] at H; have c8b0 : (x3_1 == 0) = true := beq_iff_eq.mpr c8; have c8b1 : (x3_1 != 0) = false := bne_eq_false_iff_eq.mpr c8; clear c8; obtain rfl := Option.some.inj H; have p4 : 0 ≤ (x3_1 : Int) := of_decide_eq_true u5_; have q4 : x3_1 < (a0.size : Int) := of_decide_eq_true u5_; have hx4 := bt_at a0 x3_1; replace p4 := eq_true p4; replace q4 := eq_true q4; have p6 : 0 ≤ (x3_1 : Int) := of_decide_eq_true u5_; have q6 : x3_1 < (a0.size : Int) := of_decide_eq_true u5_; have hx6 := bt_at a0 x3_1; replace p6 := eq_true p6; replace q6 := eq_true q6; go_wp2; go_ret
        exact ⟨u45_, u41_⟩
       ·rw [if_neg c8] at H; have c8b0 : (x3_1 == 0) = false := beq_eq_false_iff_ne.mpr c8; have c8b1 : (x3_1 != 0) = true := bne_iff_ne.mpr c8; by_cases c10 : (bt a0 x3_1) < 48
        ·rw [if_pos c10] at H; have c10b0 : decide ((bt a0 x3_1) < 48) = true := decide_eq_true c10; clear c10; obtain rfl := Option.some.inj H; have p4 : 0 ≤ (x3_1 : Int) := of_decide_eq_true u5_; have q4 : x3_1 < (a0.size : Int) := of_decide_eq_true u5_; have hx4 := bt_at a0 x3_1; replace p4 := eq_true p4; replace q4 := eq_true q4; have p6 : 0 ≤ (x3_1 : Int) := of_decide_eq_true u5_; have q6 : x3_1 < (a0.size : Int) := of_decide_eq_true u5_; have hx6 := bt_at a0 x3_1; replace p6 := eq_true p6; replace q6 := eq_true q6; have p9 : 0 ≤ (x3_1 : Int) := of_decide_eq_true u5_; have q9 : x3_1 < (a0.size : Int) := of_decide_eq_true u5_; have hx9 := bt_at a0 x3_1; replace p9 := eq_true p9; replace q9 := eq_true q9; go_wp2; go_ret
         exact ⟨u45_, u41_⟩
        ·rw [if_neg c10] at H; have c10b0 : decide ((bt a0 x3_1) < 48) = false := decide_eq_false c10; clear c10; by_cases c12 : (bt a0 x3_1) > 57
         ·rw [if_pos c12] at H; have c12b0 : decide (57 < (bt a0 x3_1)) = true := decide_eq_true c12; clear c12; obtain rfl := Option.some.inj H; have p4 : 0 ≤ (x3_1 : Int) := of_decide_eq_true u5_; have q4 : x3_1 < (a0.size : Int) := of_decide_eq_true u5_; have hx4 := bt_at a0 x3_1; replace p4 := eq_true p4; replace q4 := eq_true q4; have p6 : 0 ≤ (x3_1 : Int) := of_decide_eq_true u5_; have q6 : x3_1 < (a0.size : Int) := of_decide_eq_true u5_; have hx6 := bt_at a0 x3_1; replace p6 := eq_true p6; replace q6 := eq_true q6; have p9 : 0 ≤ (x3_1 : Int) := of_decide_eq_true u5_; have q9 : x3_1 < (a0.size : Int) := of_decide_eq_true u5_; have hx9 := bt_at a0 x3_1; replace p9 := eq_true p9; replace q9 := eq_true q9; have p11 : 0 ≤ (x3_1 : Int) := of_decide_eq_true u5_; have q11 : x3_1 < (a0.size : Int) := of_decide_eq_true u5_; have hx11 := bt_at a0 x3_1; replace p11 := eq_true p11; replace q11 := eq_true q11; go_wp2; go_ret
          exact ⟨u45_, u41_⟩
         ·rw [if_neg c12] at H; have c12b0 : decide (57 < (bt a0 x3_1)) = false := decide_eq_false c12; clear c12; have H' := am_ H; clear H; have p4 : 0 ≤ (x3_1 : Int) := of_decide_eq_true u5_; have q4 : x3_1 < (a0.size : Int) := of_decide_eq_true u5_; have hx4 := bt_at a0 x3_1; replace p4 := eq_true p4; replace q4 := eq_true q4; have p6 : 0 ≤ (x3_1 : Int) := of_decide_eq_true u5_; have q6 : x3_1 < (a0.size : Int) := of_decide_eq_true u5_; have hx6 := bt_at a0 x3_1; replace p6 := eq_true p6; replace q6 := eq_true q6; have p9 : 0 ≤ (x3_1 : Int) := of_decide_eq_true u5_; have q9 : x3_1 < (a0.size : Int) := of_decide_eq_true u5_; have hx9 := bt_at a0 x3_1; replace p9 := eq_true p9; replace q9 := eq_true q9; have p11 : 0 ≤ (x3_1 : Int) := of_decide_eq_true u5_; have q11 : x3_1 < (a0.size : Int) := of_decide_eq_true u5_; have hx11 := bt_at a0 x3_1; replace p11 := eq_true p11; replace q11 := eq_true q11; go_wp2; go_roundg k1
          case measure => have := HK1.out; omega
          case rel => exact ⟨(wrap64 (x3_1 + 1)), u35_, H', ⟨u131_⟩, u41_⟩
     ·rw [if_neg c5] at H; have c5b0 : decide (97 ≤ (bt a0 x3_1)) = false := decide_eq_false c5; clear c5; by_cases c13 : x3_1 = 0
      ·rw [if_pos c13] at H; have c13b0 : (x3_1 == 0) = true := beq_iff_eq.mpr c13; have c13b1 : (x3_1 != 0) = false := bne_eq_false_iff_eq.mpr c13; clear c13; obtain rfl := Option.some.inj H; have p4 : 0 ≤ (x3_1 : Int) := of_decide_eq_true u5_; have q4 : x3_1 < (a0.size : Int) := of_decide_eq_true u5_; have hx4 := bt_at a0 x3_1; replace p4 := eq_true p4; replace q4 := eq_true q4; go_wp2; go_ret
       exact ⟨u45_, u41_⟩
      ·rw [if_neg c13] at H; have c13b0 : (x3_1 == 0) = false := beq_eq_false_iff_ne.mpr c13; have c13b1 : (x3_1 != 0) = true := bne_iff_ne.mpr c13; by_cases c15 : (bt a0 x3_1) < 48
       ·rw [if_pos c15] at H; have c15b0 : decide ((bt a0 x3_1) < 48) = true := decide_eq_true c15; clear c15; obtain rfl := Option.some.inj H; have p4 : 0 ≤ (x3_1 : Int) := of_decide_eq_true u5_; have q4 : x3_1 < (a0.size : Int) := of_decide_eq_true u5_; have hx4 := bt_at a0 x3_1; replace p4 := eq_true p4; replace q4 := eq_true q4; have p14 : 0 ≤ (x3_1 : Int) := of_decide_eq_true u5_; have q14 : x3_1 < (a0.size : Int) := of_decide_eq_true u5_; have hx14 := bt_at a0 x3_1; replace p14 := eq_true p14; replace q14 := eq_true q14; go_wp2; go_ret
        exact ⟨u45_, u41_⟩
       ·rw [if_neg c15] at H; have c15b0 : decide ((bt a0 x3_1) < 48) = false := decide_eq_false c15; clear c15; by_cases c17 : (bt a0 x3_1) > 57
        ·rw [if_pos c17] at H; have c17b0 : decide (57 < (bt a0 x3_1)) = true := decide_eq_true c17; clear c17; obtain rfl := Option.some.inj H; have p4 : 0 ≤ (x3_1 : Int) := of_decide_eq_true u5_; have q4 : x3_1 < (a0.size : Int) := of_decide_eq_true u5_; have hx4 := bt_at a0 x3_1; replace p4 := eq_true p4; replace q4 := eq_true q4; have p14 : 0 ≤ (x3_1 : Int) := of_decide_eq_true u5_; have q14 : x3_1 < (a0.size : Int) := of_decide_eq_true u5_; have hx14 := bt_at a0 x3_1; replace p14 := eq_true p14; replace q14 := eq_true q14; have p16 : 0 ≤ (x3_1 : Int) := of_decide_eq_true u5_; have q16 : x3_1 < (a0.size : Int) := of_decide_eq_true u5_; have hx16 := bt_at a0 x3_1; replace p16 := eq_true p16; replace q16 := eq_true q16; go_wp2; go_ret
         exact ⟨u45_, u41_⟩
        ·rw [if_neg c17] at H; have c17b0 : decide (57 < (bt a0 x3_1)) = false := decide_eq_false c17; clear c17; have H' := am_ H; clear H; have p4 : 0 ≤ (x3_1 : Int) := of_decide_eq_true u5_; have q4 : x3_1 < (a0.size : Int) := of_decide_eq_true u5_; have hx4 := bt_at a0 x3_1; replace p4 := eq_true p4; replace q4 := eq_true q4; have p14 : 0 ≤ (x3_1 : Int) := of_decide_eq_true u5_; have q14 : x3_1 < (a0.size : Int) := of_decide_eq_true u5_; have hx14 := bt_at a0 x3_1; replace p14 := eq_true p14; replace q14 := eq_true q14; have p16 : 0 ≤ (x3_1 : Int) := of_decide_eq_true u5_; have q16 : x3_1 < (a0.size : Int) := of_decide_eq_true u5_; have hx16 := bt_at a0 x3_1; replace p16 := eq_true p16; replace q16 := eq_true q16; go_wp2; go_roundg k1
         case measure => have := HK1.out; omega
         case rel => exact ⟨(wrap64 (x3_1 + 1)), u35_, H', ⟨u131_⟩, u41_⟩
    ·exact u239_
   ·rw [if_neg c2] at H; have c2b0 : decide (x3_1 < (a0.size : Int)) = false := decide_eq_false c2; clear c2; replace H := Option.bind_eq_some_iff.mp H; obtain ⟨t315, A180, H⟩ := H; replace H : (some t315) = some r := H; have A18 := am_ A180; clear A180; obtain rfl := Option.some.inj H; go_wp2_with (first | ((with_reducible refine gate_callee (f := 68) rfl ?_); refine goesL_ (some 41) rfl rfl Tryd.func68 u23_ rfl #[.int .i64 (a0.size : Int), .int .i64 1, .int .i64 8] rfl u1_ ?_; (with_reducible refine (spec_l1In.calls (a0.size : Int) 1 8 t315 _ A18.out).mono ?_); rintro e w' ⟨rfl, ⟨nd, rfl⟩⟩; refine ⟨_, rfl, ?_⟩))
    go_ret
    exact ⟨u45_, u41_⟩

end Go.Proofs.YtelcdhjdlgedeaaDoor.PFnDocOk
