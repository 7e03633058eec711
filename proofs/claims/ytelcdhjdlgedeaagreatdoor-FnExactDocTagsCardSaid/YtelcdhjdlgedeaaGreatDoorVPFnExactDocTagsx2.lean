/- Contracts of Go functions that the law FnExactDocTags reaches: each is told as a plain Lean function, with the walk that shows it; no condition beyond what each states. Written by a program of this session round the kit's printer. -/
import Derived.Test.YtelcdhjdlgedeaaGreatDoorVPFnExactDocTagsx0
import Derived.Test.YtelcdhjdlgedeaaGreatDoorVPFnExactDocTagsx1
namespace Go.Proofs.YtelcdhjdlgedeaaGreatDoor.PFnExactDocTags
open Go.RowKit Go.Proofs.YtelcdhjdlgedeaaGreatDoorW.PrintWords Go.Proofs.YtelcdhjdlgedeaaGreatDoorW.PrintLast Go.Proofs.YtelcdhjdlgedeaaGreatDoorW.PrintMore
attribute [local go_sem] run_str_geq run_str_leq max2_int min2_int max_two min_two max_three min_three max_four min_four   -- for this text's walks alone
set_option linter.unusedVariables false
set_option linter.unusedSimpArgs false

/-! ### spec_l2Field: function 57 -/
def spec_l2Field.l0 : Nat → List (S79) → ByteArray → Int → Option (Int)
 | 0, _, _, _ => none
 | k + 1, x0, x1, x5 => if x5 < (x0.length : Int) then (if 0 ≤ x5 then (if ((rd_T79 x0 x5).f0).toList = x1.toList then (some x5) else (spec_l2Field.l0 k x0 x1 (wrap64 (x5 + 1)))) else (none)) else (some (-1))
def spec_l2Field.f (k : Nat) (l0 : List (S79)) (a1 : ByteArray) : Option (Int) := spec_l2Field.l0 k l0 a1 0
theorem spec_l2Field.mono_l : ∀ k, (∀ y0 y1 y2, LeO (spec_l2Field.l0 k y0 y1 y2) (spec_l2Field.l0 (k + 1) y0 y1 y2))
 | 0 => fun _ _ _ r h => by simp [spec_l2Field.l0] at h
 | k + 1 => by
  have ih0 := spec_l2Field.mono_l k
  ·intro y0 y1 y2; unfold spec_l2Field.l0
   repeat' first
   | (with_reducible exact ih0 _ _ _)
   | (with_reducible exact LeO.refl _)
   | (with_reducible exact LeO.none _)
   | (with_reducible refine LeO.ite ?_ ?_)
   | (with_reducible refine LeO.bind ?_ (fun _ => ?_))
   | exact ih0 _ _ _
   | exact LeO.none _
   | refine LeO.ite ?_ ?_
   | refine LeO.bind ?_ (fun _ => ?_)
theorem spec_l2Field.mono : ∀ a0 a1 k, LeO (spec_l2Field.f k a0 a1) (spec_l2Field.f (k + 1) a0 a1) := by
 intro a0 a1 k; have ih0 := spec_l2Field.mono_l k; unfold spec_l2Field.f
 repeat' first
   | (with_reducible exact ih0 _ _ _)
   | (with_reducible exact LeO.refl _)
   | (with_reducible exact LeO.none _)
   | (with_reducible refine LeO.ite ?_ ?_)
   | (with_reducible refine LeO.bind ?_ (fun _ => ?_))
   | exact ih0 _ _ _
   | exact LeO.none _
   | refine LeO.ite ?_ ?_
   | refine LeO.bind ?_ (fun _ => ?_)
set_option maxHeartbeats 8000000 in
set_option maxRecDepth 100000 in
theorem spec_l2Field.calls (k : Nat) (A0 : Option Addr) (c0 : Nat) (l0 : List (S79)) (a1 : ByteArray) (r : Int) (w : World) (hr0 : Kd.C k79 w A0 l0.length l0) (hc0 : l0.length ≤ c0) (h : spec_l2Field.f k l0 a1 = some r) :
  Calls Tryz.prog 57 #[.slice A0 l0.length c0, .string a1] w fun e w' => e = .returned (.int .i64 r) ∧ Drawn0 w w' := by
 have HR0 := am_ hr0; have HC0 := am_ hc0; clear hr0 hc0; have H : (spec_l2Field.l0 k l0 a1 0) = some r := h; clear h; have H' := am_ H; clear H; go_enter Tryz.func57, Tryz.ntmps57
 go_wp2; go_loopg [5] k (fun kq v5 w' => ∃ (x5_1 : Int), v5 = .int .i64 x5_1 ∧ Aside0 (spec_l2Field.l0 kq l0 a1 x5_1 = some r) ∧ Aside0 (kq ≤ k) ∧ Drawn0 w w')
 case atStart => exact ⟨(0), u15_, H', ⟨Nat.le_refl _⟩, u20_⟩
 case round =>
  clear H'; try clear p2
  obtain ⟨x5_1, rfl, HA, HK1, ⟨m1, rfl⟩⟩ := hrel; cases gk with
  | zero => exact absurd HA.out (by simp [spec_l2Field.l0])
  | succ k1 =>
   have H := HA.out; clear HA; simp only [spec_l2Field.l0] at H; by_cases c3 : x5_1 < (l0.length : Int)
   ·rw [if_pos c3] at H; have c3b0 : decide (x5_1 < (l0.length : Int)) = true := decide_eq_true c3; clear c3; by_cases c4 : 0 ≤ x5_1
    ·rw [if_pos c4] at H; have c4b0 : decide (0 ≤ x5_1) = true := decide_eq_true c4; clear c4; by_cases c5 : ((rd_T79 l0 x5_1).f0).toList = a1.toList
     ·rw [if_pos c5] at H; have c5b0 : (((rd_T79 l0 x5_1).f0).toList == a1.toList) = true := beq_iff_eq.mpr c5; have c5b1 : (((rd_T79 l0 x5_1).f0).toList != a1.toList) = false := bne_eq_false_iff_eq.mpr c5; clear c5; obtain rfl := Option.some.inj H; have p113 : 0 ≤ (x5_1 : Int) := of_decide_eq_true u4_; have q113 : x5_1 < (l0.length : Int) := of_decide_eq_true u4_; obtain ⟨ad113, e113, hx113_0, hx113_1, hx113_2⟩ := at_T79 HR0.out x5_1 p113 q113; cases e113; replace p113 := eq_true p113; replace q113 := eq_true q113; go_wp2; go_ret
      exact ⟨u25_, u20_⟩
     ·rw [if_neg c5] at H; have c5b0 : (((rd_T79 l0 x5_1).f0).toList == a1.toList) = false := beq_eq_false_iff_ne.mpr c5; have c5b1 : (((rd_T79 l0 x5_1).f0).toList != a1.toList) = true := bne_iff_ne.mpr c5; have H' := am_ H; clear H; have p113 : 0 ≤ (x5_1 : Int) := of_decide_eq_true u4_; have q113 : x5_1 < (l0.length : Int) := of_decide_eq_true u4_; obtain ⟨ad113, e113, hx113_0, hx113_1, hx113_2⟩ := at_T79 HR0.out x5_1 p113 q113; cases e113; replace p113 := eq_true p113; replace q113 := eq_true q113; go_wp2; go_roundg k1
      case measure => have := HK1.out; omega
      case rel => exact ⟨(wrap64 (x5_1 + 1)), u15_, H', ⟨u70_⟩, u20_⟩
    ·exact u167_
   ·rw [if_neg c3] at H; have c3b0 : decide (x5_1 < (l0.length : Int)) = false := decide_eq_false c3; clear c3; obtain rfl := Option.some.inj H; go_wp2; go_ret
    exact ⟨u25_, u20_⟩

/-! ### spec_FieldsOk: function 26 -/
mutual
def spec_FieldsOk.l0 : Nat → List (S79) → Int → Option (Bool)
 | 0, _, _ => none
 | k + 1, x0, x3 => if x3 < (x0.length : Int) then (if 0 ≤ x3 then (if ((rd_T79 x0 x3).f1) = 1 then ((spec_l1In.f ((rd_T79 x0 x3).f2) 1 9).bind fun t117 => (spec_FieldsOk.j1 k x0 x3 t117 ((rd_T79 x0 x3).f0) ((rd_T79 x0 x3).f1) ((rd_T79 x0 x3).f2))) else (spec_FieldsOk.j1 k x0 x3 false ((rd_T79 x0 x3).f0) ((rd_T79 x0 x3).f1) ((rd_T79 x0 x3).f2))) else (none)) else ((spec_l1In.f (x0.length : Int) 1 4).bind fun t114 => (some t114))
def spec_FieldsOk.j1 : Nat → List (S79) → Int → Bool → ByteArray → Int → Int → Option (Bool)
 | 0, _, _, _, _, _, _ => none
 | k + 1, x0, x3, x5, x117000, x117001, x117002 => (spec_l1In.f x117001 2 3).bind fun t118 => (if t118 = true then (spec_FieldsOk.j2 k x0 x3 x5 (x117002 == 0) x117000 x117001 x117002) else (spec_FieldsOk.j2 k x0 x3 x5 false x117000 x117001 x117002))
def spec_FieldsOk.j2 : Nat → List (S79) → Int → Bool → Bool → ByteArray → Int → Int → Option (Bool)
 | 0, _, _, _, _, _, _, _ => none
 | k + 1, x0, x3, x5, x6, x117000, x117001, x117002 => (spec_NameOk.f k x117000).bind fun t119 => (if t119 = true then ((spec_l2Field.f k x0 x117000).bind fun t120 => (if t120 = x3 then (if x5 = true then (spec_FieldsOk.l0 k x0 (wrap64 (x3 + 1))) else (if x6 = true then (spec_FieldsOk.l0 k x0 (wrap64 (x3 + 1))) else (some false))) else (some false))) else (some false))
end
def spec_FieldsOk.f (k : Nat) (l0 : List (S79)) : Option (Bool) := spec_FieldsOk.l0 k l0 0
theorem spec_FieldsOk.mono_l : ∀ k, (∀ y0 y1, LeO (spec_FieldsOk.l0 k y0 y1) (spec_FieldsOk.l0 (k + 1) y0 y1)) ∧ (∀ y0 y1 y2 y3 y4 y5, LeO (spec_FieldsOk.j1 k y0 y1 y2 y3 y4 y5) (spec_FieldsOk.j1 (k + 1) y0 y1 y2 y3 y4 y5)) ∧ (∀ y0 y1 y2 y3 y4 y5 y6, LeO (spec_FieldsOk.j2 k y0 y1 y2 y3 y4 y5 y6) (spec_FieldsOk.j2 (k + 1) y0 y1 y2 y3 y4 y5 y6))
 | 0 => ⟨fun _ _ r h => by simp [spec_FieldsOk.l0] at h, fun _ _ _ _ _ _ r h => by simp [spec_FieldsOk.j1] at h, fun _ _ _ _ _ _ _ r h => by simp [spec_FieldsOk.j2] at h⟩
 | k + 1 => by
  obtain ⟨ih0, ih1, ih2⟩ := spec_FieldsOk.mono_l k; refine ⟨?_, ?_, ?_⟩
  ·intro y0 y1; unfold spec_FieldsOk.l0
   repeat' first
   | (with_reducible exact ih0 _ _)
   | (with_reducible exact ih1 _ _ _ _ _ _)
   | (with_reducible exact ih2 _ _ _ _ _ _ _)
   | (with_reducible exact spec_NameOk.mono _ _)
   | (with_reducible exact spec_l2Field.mono _ _ _)
   | (with_reducible exact LeO.refl _)
   | (with_reducible exact LeO.none _)
   | (with_reducible refine LeO.ite ?_ ?_)
   | (with_reducible refine LeO.bind ?_ (fun _ => ?_))
   | exact ih0 _ _
   | exact ih1 _ _ _ _ _ _
   | exact ih2 _ _ _ _ _ _ _
   | exact spec_NameOk.mono _ _
   | exact spec_l2Field.mono _ _ _
   | exact LeO.none _
   | refine LeO.ite ?_ ?_
   | refine LeO.bind ?_ (fun _ => ?_)
  ·intro y0 y1 y2 y3 y4 y5; unfold spec_FieldsOk.j1
   repeat' first
   | (with_reducible exact ih0 _ _)
   | (with_reducible exact ih1 _ _ _ _ _ _)
   | (with_reducible exact ih2 _ _ _ _ _ _ _)
   | (with_reducible exact spec_NameOk.mono _ _)
   | (with_reducible exact spec_l2Field.mono _ _ _)
   | (with_reducible exact LeO.refl _)
   | (with_reducible exact LeO.none _)
   | (with_reducible refine LeO.ite ?_ ?_)
   | (with_reducible refine LeO.bind ?_ (fun _ => ?_))
   | exact ih0 _ _
   | exact ih1 _ _ _ _ _ _
   | exact ih2 _ _ _ _ _ _ _
   | exact spec_NameOk.mono _ _
   | exact spec_l2Field.mono _ _ _
   | exact LeO.none _
   | refine LeO.ite ?_ ?_
   | refine LeO.bind ?_ (fun _ => ?_)
  ·intro y0 y1 y2 y3 y4 y5 y6; unfold spec_FieldsOk.j2
   repeat' first
   | (with_reducible exact ih0 _ _)
   | (with_reducible exact ih1 _ _ _ _ _ _)
   | (with_reducible exact ih2 _ _ _ _ _ _ _)
   | (with_reducible exact spec_NameOk.mono _ _)
   | (with_reducible exact spec_l2Field.mono _ _ _)
   | (with_reducible exact LeO.refl _)
   | (with_reducible exact LeO.none _)
   | (with_reducible refine LeO.ite ?_ ?_)
   | (with_reducible refine LeO.bind ?_ (fun _ => ?_))
   | exact ih0 _ _
   | exact ih1 _ _ _ _ _ _
   | exact ih2 _ _ _ _ _ _ _
   | exact spec_NameOk.mono _ _
   | exact spec_l2Field.mono _ _ _
   | exact LeO.none _
   | refine LeO.ite ?_ ?_
   | refine LeO.bind ?_ (fun _ => ?_)
theorem spec_FieldsOk.mono : ∀ a0 k, LeO (spec_FieldsOk.f k a0) (spec_FieldsOk.f (k + 1) a0) := by
 intro a0 k; obtain ⟨ih0, ih1, ih2⟩ := spec_FieldsOk.mono_l k; unfold spec_FieldsOk.f
 repeat' first
   | (with_reducible exact ih0 _ _)
   | (with_reducible exact ih1 _ _ _ _ _ _)
   | (with_reducible exact ih2 _ _ _ _ _ _ _)
   | (with_reducible exact spec_NameOk.mono _ _)
   | (with_reducible exact spec_l2Field.mono _ _ _)
   | (with_reducible exact LeO.refl _)
   | (with_reducible exact LeO.none _)
   | (with_reducible refine LeO.ite ?_ ?_)
   | (with_reducible refine LeO.bind ?_ (fun _ => ?_))
   | exact ih0 _ _
   | exact ih1 _ _ _ _ _ _
   | exact ih2 _ _ _ _ _ _ _
   | exact spec_NameOk.mono _ _
   | exact spec_l2Field.mono _ _ _
   | exact LeO.none _
   | refine LeO.ite ?_ ?_
   | refine LeO.bind ?_ (fun _ => ?_)
set_option maxHeartbeats 8000000 in
set_option maxRecDepth 100000 in
theorem spec_FieldsOk.calls (k : Nat) (A0 : Option Addr) (c0 : Nat) (l0 : List (S79)) (r : Bool) (w : World) (hr0 : Kd.C k79 w A0 l0.length l0) (hc0 : l0.length ≤ c0) (h : spec_FieldsOk.f k l0 = some r) :
  Calls Tryz.prog 26 #[.slice A0 l0.length c0] w fun e w' => e = .returned (.bool r) ∧ Below w.heap.size w w' := by
 have hu79 := Tryz.underlying79; have HR0 := am_ hr0; have HC0 := am_ hc0; clear hr0 hc0; have HB := am_ (Below.refl w.heap.size w); have H : (spec_FieldsOk.l0 k l0 0) = some r := h; clear h; have H' := am_ H; clear H; go_enter Tryz.func26, Tryz.ntmps26
 go_wp2; go_loopg [3] k (fun kq v3 w' => ∃ (x3_1 : Int), v3 = .int .i64 x3_1 ∧ Aside0 (spec_FieldsOk.l0 kq l0 x3_1 = some r) ∧ Aside0 (kq ≤ k) ∧ Aside0 (Below w.heap.size w w'))
 case atStart => exact ⟨(0), u15_, H', ⟨Nat.le_refl _⟩, ⟨u0_⟩⟩
 case round =>
  clear H'; obtain ⟨x3_1, rfl, HA, HK1, HB⟩ := hrel; cases gk with
  | zero => exact absurd HA.out (by simp [spec_FieldsOk.l0])
  | succ k1 =>
   have H := HA.out; clear HA; simp only [spec_FieldsOk.l0] at H; by_cases c2 : x3_1 < (l0.length : Int)
   ·rw [if_pos c2] at H; have c2b0 : decide (x3_1 < (l0.length : Int)) = true := decide_eq_true c2; clear c2; by_cases c3 : 0 ≤ x3_1
    ·rw [if_pos c3] at H; have c3b0 : decide (0 ≤ x3_1) = true := decide_eq_true c3; clear c3; have HC4 := am_ H; clear H; have p115 : 0 ≤ (x3_1 : Int) := of_decide_eq_true u4_; have q115 : x3_1 < (l0.length : Int) := of_decide_eq_true u4_; obtain ⟨ad115, e115, hx115_0, hx115_1, hx115_2⟩ := at_T79 HR0.out x3_1 p115 q115; cases e115; replace hx115_0 := (HB.out.cell (World.block_lt_of_cell? w _ hx115_0)).trans hx115_0; replace hx115_1 := (HB.out.cell (World.block_lt_of_cell? w _ hx115_1)).trans hx115_1; replace hx115_2 := (HB.out.cell (World.block_lt_of_cell? w _ hx115_2)).trans hx115_2; replace p115 := eq_true p115; replace q115 := eq_true q115; go_upto_region 5 with (first | ((with_reducible refine gate_dst (N := 4) rfl ?_); refine box_event ?hg (N := 4) ?hd (cs := #[.string (⟨#[]⟩ : ByteArray), .int .i64 0, .int .i64 0]) (t := 79) ?hr ?_; (case hd => rfl); (case hg => rfl); (case hr => first | (go_simp; done) | (go_simp; rfl)); intro gb116 hg w5 hbox hb; have BK116 := am_ (hbox); have GW116 := am_ ((by rw [hg]; exact (below_size u0_) : w.heap.size ≤ gb116)); have GE116 := GW116; replace HB := am_ (below_step u0_ hb); clear hb hbox hg; have hcz6_0 : w5.cell? ⟨gb116, 0, none⟩ = some (.string (⟨#[]⟩ : ByteArray)) := (blk_cell BK116.out 0).trans rfl; have hcz6_1 : w5.cell? ⟨gb116, 1, none⟩ = some (.int .i64 0) := (blk_cell BK116.out 1).trans rfl; have hcz6_2 : w5.cell? ⟨gb116, 2, none⟩ = some (.int .i64 0) := (blk_cell BK116.out 2).trans rfl; have hfz6_0 := blk_frozen BK116.out 0; have hfz6_1 := blk_frozen BK116.out 1; have hfz6_2 := blk_frozen BK116.out 2))
     (try simp only [Act.put, List.setIfInBounds_toArray, List.set_cons_zero, List.set_cons_succ])
     go_cut [5] (fun v5 wc => ∃ (kq : Nat) (x5_3 : Bool), v5 = .bool x5_3 ∧ Aside0 (spec_FieldsOk.j1 kq l0 x3_1 x5_3 ((rd_T79 l0 x3_1).f0) ((rd_T79 l0 x3_1).f1) ((rd_T79 l0 x3_1).f2) = some r) ∧ Aside0 (kq ≤ k1) ∧ Aside0 (wc.heap[gb116]? = some (.cells #[.string ((rd_T79 l0 x3_1).f0), .int .i64 ((rd_T79 l0 x3_1).f1), .int .i64 ((rd_T79 l0 x3_1).f2)] 79 (0, 0))) ∧ Aside0 (Below w.heap.size w wc))
     case first =>
      have H := HC4.out; clear HC4; by_cases c7 : ((rd_T79 l0 x3_1).f1) = 1
      ·rw [if_pos c7] at H; have c7b0 : (((rd_T79 l0 x3_1).f1) == 1) = true := beq_iff_eq.mpr c7; have c7b1 : (((rd_T79 l0 x3_1).f1) != 1) = false := bne_eq_false_iff_eq.mpr c7; clear c7; (first | rw [c7b0] | (simp only [i64_w, i32_w]; rw [c7b0]) | skip)
       replace H := Option.bind_eq_some_iff.mp H; obtain ⟨t117, A80, H⟩ := H; replace H : (spec_FieldsOk.j1 k1 l0 x3_1 t117 ((rd_T79 l0 x3_1).f0) ((rd_T79 l0 x3_1).f1) ((rd_T79 l0 x3_1).f2)) = some r := H; have A8 := am_ A80; clear A80; have H' := am_ H; clear H; have hcz9_0 : w5.cell? ⟨gb116, 0, none⟩ = some (.string (⟨#[]⟩ : ByteArray)) := (blk_cell BK116.out 0).trans rfl; have hcz9_1 : w5.cell? ⟨gb116, 1, none⟩ = some (.int .i64 0) := (blk_cell BK116.out 1).trans rfl; have hcz9_2 : w5.cell? ⟨gb116, 2, none⟩ = some (.int .i64 0) := (blk_cell BK116.out 2).trans rfl; have hfz9_0 := blk_frozen BK116.out 0; have hfz9_1 := blk_frozen BK116.out 1; have hfz9_2 := blk_frozen BK116.out 2; go_wp2_with (first | (go_at_call 55; (with_reducible refine (spec_l1In.calls ((rd_T79 l0 x3_1).f2) 1 9 t117 _ A8.out).mono ?_); rintro e w' ⟨rfl, ⟨nd, rfl⟩⟩))
       go_meet
       case rel => exact ⟨_, (t117), u15_, H', ⟨u104_⟩, ⟨u69_⟩, ⟨u33_⟩⟩
      ·rw [if_neg c7] at H; have c7b0 : (((rd_T79 l0 x3_1).f1) == 1) = false := beq_eq_false_iff_ne.mpr c7; have c7b1 : (((rd_T79 l0 x3_1).f1) != 1) = true := bne_iff_ne.mpr c7; (first | rw [c7b0] | (simp only [i64_w, i32_w]; rw [c7b0]) | skip)
       have H' := am_ H; clear H; have hcz10_0 : w5.cell? ⟨gb116, 0, none⟩ = some (.string (⟨#[]⟩ : ByteArray)) := (blk_cell BK116.out 0).trans rfl; have hcz10_1 : w5.cell? ⟨gb116, 1, none⟩ = some (.int .i64 0) := (blk_cell BK116.out 1).trans rfl; have hcz10_2 : w5.cell? ⟨gb116, 2, none⟩ = some (.int .i64 0) := (blk_cell BK116.out 2).trans rfl; have hfz10_0 := blk_frozen BK116.out 0; have hfz10_1 := blk_frozen BK116.out 1; have hfz10_2 := blk_frozen BK116.out 2; go_wp2; go_meet
       case rel => exact ⟨_, (false), u15_, H', ⟨u104_⟩, ⟨u69_⟩, ⟨u33_⟩⟩
     case rest =>
      clear HC4; try clear p1
      try clear q1
      try clear hx1
      try clear c2
      try clear c2b0
      try clear p2
      try clear c3
      try clear c3b0
      try clear c7
      try clear c7b0
      try clear c7b1
      try clear hcz10_0
      try clear hcz10_1
      try clear hcz10_2
      try clear hcz6_0
      try clear hcz6_1
      try clear hcz6_2
      try clear hcz9_0
      try clear hcz9_1
      try clear hcz9_2
      try clear hfz10_0
      try clear hfz10_1
      try clear hfz10_2
      try clear hfz6_0
      try clear hfz6_1
      try clear hfz6_2
      try clear hfz9_0
      try clear hfz9_1
      try clear hfz9_2
      try clear hx115_0
      try clear hx115_1
      try clear hx115_2
      try clear p115
      try clear q115
      obtain ⟨kq, x5_3, rfl, HA, HJ3, BK116, HB⟩ := hcut; cases kq with
      | zero => exact absurd HA.out (by simp [spec_FieldsOk.j1])
      | succ kj3 =>
       have H := HA.out; clear HA; simp only [spec_FieldsOk.j1] at H; have HC11 := am_ H; clear H; go_upto_region 6 with (fail)
       go_cut [6] (fun v6 wc => ∃ (kq : Nat) (x6_10 : Bool), v6 = .bool x6_10 ∧ Aside0 (spec_FieldsOk.j2 kq l0 x3_1 x5_3 x6_10 ((rd_T79 l0 x3_1).f0) ((rd_T79 l0 x3_1).f1) ((rd_T79 l0 x3_1).f2) = some r) ∧ Aside0 (kq ≤ kj3) ∧ Aside0 (wc.heap[gb116]? = some (.cells #[.string ((rd_T79 l0 x3_1).f0), .int .i64 ((rd_T79 l0 x3_1).f1), .int .i64 ((rd_T79 l0 x3_1).f2)] 79 (0, 0))) ∧ Aside0 (Below w.heap.size w wc))
       case first =>
        have H := HC11.out; clear HC11; replace H := Option.bind_eq_some_iff.mp H; obtain ⟨t118, A120, H⟩ := H; replace H : (if t118 = true then (spec_FieldsOk.j2 kj3 l0 x3_1 x5_3 (((rd_T79 l0 x3_1).f2) == 0) ((rd_T79 l0 x3_1).f0) ((rd_T79 l0 x3_1).f1) ((rd_T79 l0 x3_1).f2)) else (spec_FieldsOk.j2 kj3 l0 x3_1 x5_3 false ((rd_T79 l0 x3_1).f0) ((rd_T79 l0 x3_1).f1) ((rd_T79 l0 x3_1).f2))) = some r := H; have A12 := am_ A120; clear A120; by_cases c13 : t118 = true
        ·subst c13; have H1 : (spec_FieldsOk.j2 kj3 l0 x3_1 x5_3 (((rd_T79 l0 x3_1).f2) == 0) ((rd_T79 l0 x3_1).f0) ((rd_T79 l0 x3_1).f1) ((rd_T79 l0 x3_1).f2)) = some r := by rw [if_pos rfl] at H; exact H
         clear H; have H := H1; clear H1; have H' := am_ H; clear H; have hcz14_0 : wc.cell? ⟨gb116, 0, none⟩ = some (.string ((rd_T79 l0 x3_1).f0)) := (blk_cell BK116.out 0).trans rfl; have hcz14_1 : wc.cell? ⟨gb116, 1, none⟩ = some (.int .i64 ((rd_T79 l0 x3_1).f1)) := (blk_cell BK116.out 1).trans rfl; have hcz14_2 : wc.cell? ⟨gb116, 2, none⟩ = some (.int .i64 ((rd_T79 l0 x3_1).f2)) := (blk_cell BK116.out 2).trans rfl; have hfz14_0 := blk_frozen BK116.out 0; have hfz14_1 := blk_frozen BK116.out 1; have hfz14_2 := blk_frozen BK116.out 2; go_wp2_with (first | ((with_reducible refine gate_callee (f := 55) rfl ?_); refine goesL_ (some 27) rfl rfl Tryz.func55 u8_ rfl #[.int .i64 ((rd_T79 l0 x3_1).f1), .int .i64 2, .int .i64 3] rfl u2_ ?_; (with_reducible refine (spec_l1In.calls ((rd_T79 l0 x3_1).f1) 2 3 true _ A12.out).mono ?_); rintro e w' ⟨rfl, ⟨nd, rfl⟩⟩; refine ⟨_, rfl, ?_⟩))
         go_meet
         case rel => exact ⟨_, ((((rd_T79 l0 x3_1).f2) == 0)), u15_, H', ⟨by have := HK1.out; have := HJ3.out; first | omega | exact Nat.le_refl _⟩, ⟨u139_⟩, ⟨u33_⟩⟩
        ·replace c13 := Bool.eq_false_iff.mpr c13; subst c13; have H1 : (spec_FieldsOk.j2 kj3 l0 x3_1 x5_3 false ((rd_T79 l0 x3_1).f0) ((rd_T79 l0 x3_1).f1) ((rd_T79 l0 x3_1).f2)) = some r := by rw [if_neg (show ¬ (false = true) by decide)] at H; exact H
         clear H; have H := H1; clear H1; have H' := am_ H; clear H; have hcz15_0 : wc.cell? ⟨gb116, 0, none⟩ = some (.string ((rd_T79 l0 x3_1).f0)) := (blk_cell BK116.out 0).trans rfl; have hcz15_1 : wc.cell? ⟨gb116, 1, none⟩ = some (.int .i64 ((rd_T79 l0 x3_1).f1)) := (blk_cell BK116.out 1).trans rfl; have hcz15_2 : wc.cell? ⟨gb116, 2, none⟩ = some (.int .i64 ((rd_T79 l0 x3_1).f2)) := (blk_cell BK116.out 2).trans rfl; have hfz15_0 := blk_frozen BK116.out 0; have hfz15_1 := blk_frozen BK116.out 1; have hfz15_2 := blk_frozen BK116.out 2; go_wp2_with (first | ((with_reducible refine gate_callee (f := 55) rfl ?_); refine goesL_ (some 27) rfl rfl Tryz.func55 u8_ rfl #[.int .i64 ((rd_T79 l0 x3_1).f1), .int .i64 2, .int .i64 3] rfl u2_ ?_; (with_reducible refine (spec_l1In.calls ((rd_T79 l0 x3_1).f1) 2 3 false _ A12.out).mono ?_); rintro e w' ⟨rfl, ⟨nd, rfl⟩⟩; refine ⟨_, rfl, ?_⟩))
         go_meet
         case rel => exact ⟨_, (false), u15_, H', ⟨by have := HK1.out; have := HJ3.out; first | omega | exact Nat.le_refl _⟩, ⟨u139_⟩, ⟨u33_⟩⟩
       case rest =>
        clear HC11; try clear c1
        try clear p1
        try clear q1
        try clear hx1
        try clear c2
        try clear c2b0
        try clear p2
        try clear c3
        try clear c3b0
        try clear c5
        try clear c7
        try clear c7b0
        try clear c7b1
        try clear p11
        try clear q11
        try clear hx11
        try clear c13
        try clear hcz10_0
        try clear hcz10_1
        try clear hcz10_2
        try clear hcz14_0
        try clear hcz14_1
        try clear hcz14_2
        try clear hcz15_0
        try clear hcz15_1
        try clear hcz15_2
        try clear hcz6_0
        try clear hcz6_1
        try clear hcz6_2
        try clear hcz9_0
        try clear hcz9_1
        try clear hcz9_2
        try clear hfz10_0
        try clear hfz10_1
        try clear hfz10_2
        try clear hfz14_0
        try clear hfz14_1
        try clear hfz14_2
        try clear hfz15_0
        try clear hfz15_1
        try clear hfz15_2
        try clear hfz6_0
        try clear hfz6_1
        try clear hfz6_2
        try clear hfz9_0
        try clear hfz9_1
        try clear hfz9_2
        try clear hx115_0
        try clear hx115_1
        try clear hx115_2
        try clear p1
        try clear p115
        try clear p2
        try clear q1
        try clear q115
        obtain ⟨kq, x6_10, rfl, HA, HJ10, BK116, HB⟩ := hcut; cases kq with
        | zero => exact absurd HA.out (by simp [spec_FieldsOk.j2])
        | succ kj10 =>
         have H := HA.out; clear HA; simp only [spec_FieldsOk.j2] at H; replace H := Option.bind_eq_some_iff.mp H; obtain ⟨t119, A160, H⟩ := H; replace H : (if t119 = true then ((spec_l2Field.f kj10 l0 ((rd_T79 l0 x3_1).f0)).bind fun t120 => (if t120 = x3_1 then (if x5_3 = true then (spec_FieldsOk.l0 kj10 l0 (wrap64 (x3_1 + 1))) else (if x6_10 = true then (spec_FieldsOk.l0 kj10 l0 (wrap64 (x3_1 + 1))) else (some false))) else (some false))) else (some false)) = some r := H; have A16 := am_ A160; clear A160; by_cases c17 : t119 = true
         ·subst c17; have H1 : ((spec_l2Field.f kj10 l0 ((rd_T79 l0 x3_1).f0)).bind fun t120 => (if t120 = x3_1 then (if x5_3 = true then (spec_FieldsOk.l0 kj10 l0 (wrap64 (x3_1 + 1))) else (if x6_10 = true then (spec_FieldsOk.l0 kj10 l0 (wrap64 (x3_1 + 1))) else (some false))) else (some false))) = some r := by rw [if_pos rfl] at H; exact H
          clear H; have H := H1; clear H1; replace H := Option.bind_eq_some_iff.mp H; obtain ⟨t120, A180, H⟩ := H; replace H : (if t120 = x3_1 then (if x5_3 = true then (spec_FieldsOk.l0 kj10 l0 (wrap64 (x3_1 + 1))) else (if x6_10 = true then (spec_FieldsOk.l0 kj10 l0 (wrap64 (x3_1 + 1))) else (some false))) else (some false)) = some r := H; have A18 := am_ A180; clear A180; by_cases c19 : t120 = x3_1
          ·rw [if_pos c19] at H; have c19b0 : (t120 == x3_1) = true := beq_iff_eq.mpr c19; have c19b1 : (t120 != x3_1) = false := bne_eq_false_iff_eq.mpr c19; clear c19; by_cases c20 : x5_3 = true
           ·subst c20; have H1 : (spec_FieldsOk.l0 kj10 l0 (wrap64 (x3_1 + 1))) = some r := by rw [if_pos rfl] at H; exact H
            clear H; have H := H1; clear H1; have H' := am_ H; clear H; have hcz21_0 : wc.cell? ⟨gb116, 0, none⟩ = some (.string ((rd_T79 l0 x3_1).f0)) := (blk_cell BK116.out 0).trans rfl; have hcz21_1 : wc.cell? ⟨gb116, 1, none⟩ = some (.int .i64 ((rd_T79 l0 x3_1).f1)) := (blk_cell BK116.out 1).trans rfl; have hcz21_2 : wc.cell? ⟨gb116, 2, none⟩ = some (.int .i64 ((rd_T79 l0 x3_1).f2)) := (blk_cell BK116.out 2).trans rfl; have hfz21_0 := blk_frozen BK116.out 0; have hfz21_1 := blk_frozen BK116.out 1; have hfz21_2 := blk_frozen BK116.out 2; go_wp2_with (first | ((with_reducible refine gate_callee (f := 56) rfl ?_); refine goesL_ (some 35) rfl rfl Tryz.func56 u8_ rfl #[.string ((rd_T79 l0 x3_1).f0)] rfl u2_ ?_; (with_reducible refine (spec_NameOk.calls kj10 ((rd_T79 l0 x3_1).f0) true _ A16.out).mono ?_); rintro e w' ⟨rfl, ⟨nd, rfl⟩⟩; refine ⟨_, rfl, ?_⟩) | (go_at_call 57; (with_reducible refine (spec_l2Field.calls kj10 _ _ l0 ((rd_T79 l0 x3_1).f0) t120 _ ?side1 ?side2 A18.out).mono ?_); (case side1 => repeat (first | exact (Kd.C_below HR0.out u33_) | (with_reducible refine Kd.C_alloc ?_ _) | (with_reducible refine Kd.C_drewN ?_ _) | (with_reducible refine Kd.C_drew ?_))); (case side2 => exact HC0.out); rintro e w' ⟨rfl, ⟨nd, rfl⟩⟩))
            go_roundg kj10
            case measure => have := HK1.out; have := HJ3.out; have := HJ10.out; omega
            case rel => exact ⟨(wrap64 (x3_1 + 1)), u15_, H', ⟨by have := HK1.out; have := HJ3.out; have := HJ10.out; omega⟩, ⟨u33_⟩⟩
           ·replace c20 := Bool.eq_false_iff.mpr c20; subst c20; have H1 : (if x6_10 = true then (spec_FieldsOk.l0 kj10 l0 (wrap64 (x3_1 + 1))) else (some false)) = some r := by rw [if_neg (show ¬ (false = true) by decide)] at H; exact H
            clear H; have H := H1; clear H1; by_cases c22 : x6_10 = true
            ·subst c22; have H1 : (spec_FieldsOk.l0 kj10 l0 (wrap64 (x3_1 + 1))) = some r := by rw [if_pos rfl] at H; exact H
             clear H; have H := H1; clear H1; have H' := am_ H; clear H; have hcz23_0 : wc.cell? ⟨gb116, 0, none⟩ = some (.string ((rd_T79 l0 x3_1).f0)) := (blk_cell BK116.out 0).trans rfl; have hcz23_1 : wc.cell? ⟨gb116, 1, none⟩ = some (.int .i64 ((rd_T79 l0 x3_1).f1)) := (blk_cell BK116.out 1).trans rfl; have hcz23_2 : wc.cell? ⟨gb116, 2, none⟩ = some (.int .i64 ((rd_T79 l0 x3_1).f2)) := (blk_cell BK116.out 2).trans rfl; have hfz23_0 := blk_frozen BK116.out 0; have hfz23_1 := blk_frozen BK116.out 1; have hfz23_2 := blk_frozen BK116.out 2; go_wp2_with (first | ((with_reducible refine gate_callee (f := 56) rfl ?_); refine goesL_ (some 35) rfl rfl Tryz.func56 u8_ rfl #[.string ((rd_T79 l0 x3_1).f0)] rfl u2_ ?_; (with_reducible refine (spec_NameOk.calls kj10 ((rd_T79 l0 x3_1).f0) true _ A16.out).mono ?_); rintro e w' ⟨rfl, ⟨nd, rfl⟩⟩; refine ⟨_, rfl, ?_⟩) | (go_at_call 57; (with_reducible refine (spec_l2Field.calls kj10 _ _ l0 ((rd_T79 l0 x3_1).f0) t120 _ ?side1 ?side2 A18.out).mono ?_); (case side1 => repeat (first | exact (Kd.C_below HR0.out u33_) | (with_reducible refine Kd.C_alloc ?_ _) | (with_reducible refine Kd.C_drewN ?_ _) | (with_reducible refine Kd.C_drew ?_))); (case side2 => exact HC0.out); rintro e w' ⟨rfl, ⟨nd, rfl⟩⟩))
             go_roundg kj10
             case measure => have := HK1.out; have := HJ3.out; have := HJ10.out; omega
             case rel => exact ⟨(wrap64 (x3_1 + 1)), u15_, H', ⟨by have := HK1.out; have := HJ3.out; have := HJ10.out; omega⟩, ⟨u33_⟩⟩
            ·replace c22 := Bool.eq_false_iff.mpr c22; subst c22; have H1 : (some false) = some r := by rw [if_neg (show ¬ (false = true) by decide)] at H; exact H
             clear H; have H := H1; clear H1; obtain rfl := Option.some.inj H; have hcz24_0 : wc.cell? ⟨gb116, 0, none⟩ = some (.string ((rd_T79 l0 x3_1).f0)) := (blk_cell BK116.out 0).trans rfl; have hcz24_1 : wc.cell? ⟨gb116, 1, none⟩ = some (.int .i64 ((rd_T79 l0 x3_1).f1)) := (blk_cell BK116.out 1).trans rfl; have hcz24_2 : wc.cell? ⟨gb116, 2, none⟩ = some (.int .i64 ((rd_T79 l0 x3_1).f2)) := (blk_cell BK116.out 2).trans rfl; have hfz24_0 := blk_frozen BK116.out 0; have hfz24_1 := blk_frozen BK116.out 1; have hfz24_2 := blk_frozen BK116.out 2; go_wp2_with (first | ((with_reducible refine gate_callee (f := 56) rfl ?_); refine goesL_ (some 35) rfl rfl Tryz.func56 u8_ rfl #[.string ((rd_T79 l0 x3_1).f0)] rfl u2_ ?_; (with_reducible refine (spec_NameOk.calls kj10 ((rd_T79 l0 x3_1).f0) true _ A16.out).mono ?_); rintro e w' ⟨rfl, ⟨nd, rfl⟩⟩; refine ⟨_, rfl, ?_⟩) | (go_at_call 57; (with_reducible refine (spec_l2Field.calls kj10 _ _ l0 ((rd_T79 l0 x3_1).f0) t120 _ ?side1 ?side2 A18.out).mono ?_); (case side1 => repeat (first | exact (Kd.C_below HR0.out u33_) | (with_reducible refine Kd.C_alloc ?_ _) | (with_reducible refine Kd.C_drewN ?_ _) | (with_reducible refine Kd.C_drew ?_))); (case side2 => exact HC0.out); rintro e w' ⟨rfl, ⟨nd, rfl⟩⟩))
             go_ret
             exact ⟨u5_, u33_⟩
          ·rw [if_neg c19] at H; have c19b0 : (t120 == x3_1) = false := beq_eq_false_iff_ne.mpr c19; have c19b1 : (t120 != x3_1) = true := bne_iff_ne.mpr c19; obtain rfl := Option.some.inj H; have hcz25_0 : wc.cell? ⟨gb116, 0, none⟩ = some (.string ((rd_T79 l0 x3_1).f0)) := (blk_cell BK116.out 0).trans rfl; have hcz25_1 : wc.cell? ⟨gb116, 1, none⟩ = some (.int .i64 ((rd_T79 l0 x3_1).f1)) := (blk_cell BK116.out 1).trans rfl; have hcz25_2 : wc.cell? ⟨gb116, 2, none⟩ = some (.int .i64 ((rd_T79 l0 x3_1).f2)) := (blk_cell BK116.out 2).trans rfl; have hfz25_0 := blk_frozen BK116.out 0; have hfz25_1 := blk_frozen BK116.out 1; have hfz25_2 := blk_frozen BK116.out 2; go_wp2_with (first | ((with_reducible refine gate_callee (f := 56) rfl ?_); refine goesL_ (some 35) rfl rfl Tryz.func56 u8_ rfl #[.string ((rd_T79 l0 x3_1).f0)] rfl u2_ ?_; (with_reducible refine (spec_NameOk.calls kj10 ((rd_T79 l0 x3_1).f0) true _ A16.out).mono ?_); rintro e w' ⟨rfl, ⟨nd, rfl⟩⟩; refine ⟨_, rfl, ?_⟩) | (go_at_call 57; (with_reducible refine (spec_l2Field.calls kj10 _ _ l0 ((rd_T79 l0 x3_1).f0) t120 _ ?side1 ?side2 A18.out).mono ?_); (case side1 => repeat (first | exact (Kd.C_below HR0.out u33_) | (with_reducible refine Kd.C_alloc ?_ _) | (with_reducible refine Kd.C_drewN ?_ _) | (with_reducible refine Kd.C_drew ?_))); (case side2 => exact HC0.out); rintro e w' ⟨rfl, ⟨nd, rfl⟩⟩))
           go_ret
           exact ⟨u5_, u33_⟩
         ·replace c17 := Bool.eq_false_iff.mpr c17; subst c17; have H1 : (some false) = some r := by rw [if_neg (show ¬ (false = true) by decide)] at H; exact H
          clear H; have H := H1; clear H1; obtain rfl := Option.some.inj H; have hcz26_0 : wc.cell? ⟨gb116, 0, none⟩ = some (.string ((rd_T79 l0 x3_1).f0)) := (blk_cell BK116.out 0).trans rfl; have hcz26_1 : wc.cell? ⟨gb116, 1, none⟩ = some (.int .i64 ((rd_T79 l0 x3_1).f1)) := (blk_cell BK116.out 1).trans rfl; have hcz26_2 : wc.cell? ⟨gb116, 2, none⟩ = some (.int .i64 ((rd_T79 l0 x3_1).f2)) := (blk_cell BK116.out 2).trans rfl; have hfz26_0 := blk_frozen BK116.out 0; have hfz26_1 := blk_frozen BK116.out 1; have hfz26_2 := blk_frozen BK116.out 2; go_wp2_with (first | ((with_reducible refine gate_callee (f := 56) rfl ?_); refine goesL_ (some 35) rfl rfl Tryz.func56 u8_ rfl #[.string ((rd_T79 l0 x3_1).f0)] rfl u2_ ?_; (with_reducible refine (spec_NameOk.calls kj10 ((rd_T79 l0 x3_1).f0) false _ A16.out).mono ?_); rintro e w' ⟨rfl, ⟨nd, rfl⟩⟩; refine ⟨_, rfl, ?_⟩))
          go_ret
          exact ⟨u5_, u33_⟩
    ·exact u169_
   ·rw [if_neg c2] at H; have c2b0 : decide (x3_1 < (l0.length : Int)) = false := decide_eq_false c2; clear c2; replace H := Option.bind_eq_some_iff.mp H; obtain ⟨t114, A270, H⟩ := H; replace H : (some t114) = some r := H; have A27 := am_ A270; clear A270; obtain rfl := Option.some.inj H; go_wp2_with (first | ((with_reducible refine gate_callee (f := 55) rfl ?_); refine goesL_ (some 55) rfl rfl Tryz.func55 u8_ rfl #[.int .i64 (l0.length : Int), .int .i64 1, .int .i64 4] rfl u2_ ?_; (with_reducible refine (spec_l1In.calls (l0.length : Int) 1 4 t114 _ A27.out).mono ?_); rintro e w' ⟨rfl, ⟨nd, rfl⟩⟩; refine ⟨_, rfl, ?_⟩))
    go_ret
    exact ⟨u5_, u0_⟩

/-! ### spec_l1Cut: function 75 -/
mutual
def spec_l1Cut.l0 : Nat → ByteArray → Int → Int → List ByteArray → Int → Int → Option (List ByteArray)
 | 0, _, _, _, _, _, _ => none
 | k + 1, x0, x1, x2, x7, x8, x9 => if x9 < (x0.size : Int) then (spec_l1Cut.j1 k x0 x1 x2 x7 x8 x9 (decide ((x7.length : Int) < x2))) else (spec_l1Cut.j1 k x0 x1 x2 x7 x8 x9 false)
def spec_l1Cut.j1 : Nat → ByteArray → Int → Int → List ByteArray → Int → Int → Bool → Option (List ByteArray)
 | 0, _, _, _, _, _, _, _ => none
 | k + 1, x0, x1, x2, x7, x8, x9, x20 => if x20 = true then (if 0 ≤ x9 then (if x9 < (x0.size : Int) then (if (bt x0 x9) = x1 then (if 0 ≤ x8 then (if x8 ≤ x9 then (if x9 ≤ (x0.size : Int) then (if x7.length < 8796093022208 then (spec_l1Cut.l0 k x0 x1 x2 (x7 ++ [x0.extract (x8 : Int).toNat (x9 : Int).toNat]) (wrap64 (x9 + 1)) (wrap64 (x9 + 1))) else (none)) else (none)) else (none)) else (none)) else (spec_l1Cut.l0 k x0 x1 x2 x7 x8 (wrap64 (x9 + 1)))) else (none)) else (none)) else (if 0 ≤ x8 then (if x8 ≤ (x0.size : Int) then (if x7.length < 8796093022208 then (some (x7 ++ [x0.extract (x8 : Int).toNat x0.size])) else (none)) else (none)) else (none))
end
def spec_l1Cut.f (k : Nat) (a0 : ByteArray) (a1 : Int) (a2 : Int) : Option (List ByteArray) := spec_l1Cut.l0 k a0 a1 a2 (([] : List ByteArray)) 0 0
theorem spec_l1Cut.mono_l : ∀ k, (∀ y0 y1 y2 y3 y4 y5, LeO (spec_l1Cut.l0 k y0 y1 y2 y3 y4 y5) (spec_l1Cut.l0 (k + 1) y0 y1 y2 y3 y4 y5)) ∧ (∀ y0 y1 y2 y3 y4 y5 y6, LeO (spec_l1Cut.j1 k y0 y1 y2 y3 y4 y5 y6) (spec_l1Cut.j1 (k + 1) y0 y1 y2 y3 y4 y5 y6))
 | 0 => ⟨fun _ _ _ _ _ _ r h => by simp [spec_l1Cut.l0] at h, fun _ _ _ _ _ _ _ r h => by simp [spec_l1Cut.j1] at h⟩
 | k + 1 => by
  obtain ⟨ih0, ih1⟩ := spec_l1Cut.mono_l k; refine ⟨?_, ?_⟩
  ·intro y0 y1 y2 y3 y4 y5; unfold spec_l1Cut.l0
   repeat' first
   | (with_reducible exact ih0 _ _ _ _ _ _)
   | (with_reducible exact ih1 _ _ _ _ _ _ _)
   | (with_reducible exact LeO.refl _)
   | (with_reducible exact LeO.none _)
   | (with_reducible refine LeO.ite ?_ ?_)
   | (with_reducible refine LeO.bind ?_ (fun _ => ?_))
   | exact ih0 _ _ _ _ _ _
   | exact ih1 _ _ _ _ _ _ _
   | exact LeO.none _
   | refine LeO.ite ?_ ?_
   | refine LeO.bind ?_ (fun _ => ?_)
  ·intro y0 y1 y2 y3 y4 y5 y6; unfold spec_l1Cut.j1
   repeat' first
   | (with_reducible exact ih0 _ _ _ _ _ _)
   | (with_reducible exact ih1 _ _ _ _ _ _ _)
   | (with_reducible exact LeO.refl _)
   | (with_reducible exact LeO.none _)
   | (with_reducible refine LeO.ite ?_ ?_)
   | (with_reducible refine LeO.bind ?_ (fun _ => ?_))
   | exact ih0 _ _ _ _ _ _
   | exact ih1 _ _ _ _ _ _ _
   | exact LeO.none _
   | refine LeO.ite ?_ ?_
   | refine LeO.bind ?_ (fun _ => ?_)
theorem spec_l1Cut.mono : ∀ a0 a1 a2 k, LeO (spec_l1Cut.f k a0 a1 a2) (spec_l1Cut.f (k + 1) a0 a1 a2) := by
 intro a0 a1 a2 k; obtain ⟨ih0, ih1⟩ := spec_l1Cut.mono_l k; unfold spec_l1Cut.f
 repeat' first
   | (with_reducible exact ih0 _ _ _ _ _ _)
   | (with_reducible exact ih1 _ _ _ _ _ _ _)
   | (with_reducible exact LeO.refl _)
   | (with_reducible exact LeO.none _)
   | (with_reducible refine LeO.ite ?_ ?_)
   | (with_reducible refine LeO.bind ?_ (fun _ => ?_))
   | exact ih0 _ _ _ _ _ _
   | exact ih1 _ _ _ _ _ _ _
   | exact LeO.none _
   | refine LeO.ite ?_ ?_
   | refine LeO.bind ?_ (fun _ => ?_)
set_option maxHeartbeats 8000000 in
set_option maxRecDepth 100000 in
theorem spec_l1Cut.calls (k : Nat) (a0 : ByteArray) (a1 : Int) (a2 : Int) (r : List ByteArray) (w : World) (h : spec_l1Cut.f k a0 a1 a2 = some r) :
  Calls Tryz.prog 75 #[.string a0, .int .u8 a1, .int .i64 a2] w fun e w' => ∃ v0_ : Value, e = .returned (v0_) ∧ Kd.R Kd.string 9 w' w.heap.size (fun _ => True) v0_ r ∧ Below w.heap.size w w' := by
 have HB := am_ (Below.refl w.heap.size w); have H : (spec_l1Cut.l0 k a0 a1 a2 (([] : List ByteArray)) 0 0) = some r := h; clear h; obtain ⟨y121, hy121⟩ : ∃ y_ : List ByteArray, y_ = (([] : List ByteArray)) := ⟨_, rfl⟩; replace H : (spec_l1Cut.l0 k a0 a1 a2 y121 0 0) = some r := by first | (rw [hy121]; with_reducible exact H) | (have H2_ := (Option.bind_some _ _).symm.trans H; rw [hy121]; with_reducible exact H2_) | (have H2_ := (Option.bind_some _ _).symm.trans H; with_reducible exact H2_) | with_reducible exact H | (rw [hy121]; exact H) | exact H
 have Ny121 := am_ hy121; clear hy121; have H' := am_ H; clear H; go_enter Tryz.func75, Tryz.ntmps75
 go_wp2_with (first | ((with_reducible refine gate_dst (N := 10) rfl ?_); (try (refine gate_guard u45_ ?_; dsimp only)); refine Kd.R_lit Kd.string _ 9 ?hg (N := 10) ?hd (xs := ([] : List ByteArray)) (inner := []) (ok := fun _ => True) (okp := fun _ => True) ?hr ?hp (fun _ hk => hk) trivial (Below.refl _ _) (Nat.le_refl _) u91_ ?_; (case hd => rfl); (case hg => rfl); (case hr => first | (go_simp; done) | (go_simp; rfl)); (case hp => exact (Reps.none _ _)); intro v122 w4 ho5 hb hg_ hnew_; clear hg_ hnew_; (first | rw [← Ny121.out] at ho5 | (simp only [Int.reduceToNat] at ho5; rw [← Ny121.out] at ho5)); have HO123 := am_ (Kd.R_lower ho5 (below_size u0_)); replace HB := am_ (below_step u0_ hb); clear hb ho5))
 go_loopg [7, 8, 9] k (fun kq v7 v8 v9 w' => ∃ (x7_1 : List ByteArray) (x8_1 : Int) (x9_1 : Int), v8 = .int .i64 x8_1 ∧ v9 = .int .i64 x9_1 ∧ Aside0 (spec_l1Cut.l0 kq a0 a1 a2 x7_1 x8_1 x9_1 = some r) ∧ Aside0 (kq ≤ k) ∧ Aside0 (Kd.R Kd.string 9 w' w.heap.size (fun _ => True) v7 x7_1) ∧ Aside0 (Below w.heap.size w w'))
 case atStart => exact ⟨(y121), (0), (0), u15_, u15_, H', ⟨Nat.le_refl _⟩, ⟨by (with_reducible repeat (first | apply Kd.R_alloc | apply Kd.R_drewN | apply Kd.R_drew)); exact HO123.out⟩, ⟨u0_⟩⟩
 case round =>
  clear H'; try clear p2
  obtain ⟨x7_1, x8_1, x9_1, rfl, rfl, HA, HK1, HO_7, HB⟩ := hrel; cases gk with
  | zero => exact absurd HA.out (by simp [spec_l1Cut.l0])
  | succ k1 =>
   have H := HA.out; clear HA; simp only [spec_l1Cut.l0] at H; have HC6 := am_ H; clear H; go_upto_region 4 with (fail)
   go_cut [20] (fun v20 wc => ∃ (kq : Nat) (x20_5 : Bool), v20 = .bool x20_5 ∧ Aside0 (spec_l1Cut.j1 kq a0 a1 a2 x7_1 x8_1 x9_1 x20_5 = some r) ∧ Aside0 (kq ≤ k1) ∧ Aside0 (Kd.R Kd.string 9 wc w.heap.size (fun _ => True) u7 x7_1) ∧ Aside0 (Below w.heap.size w wc))
   case first =>
    have H := HC6.out; clear HC6; by_cases c7 : x9_1 < (a0.size : Int)
    ·rw [if_pos c7] at H; have c7b0 : decide (x9_1 < (a0.size : Int)) = true := decide_eq_true c7; clear c7; (first | rw [c7b0] | (simp only [i64_w, i32_w]; rw [c7b0]) | skip)
     have H' := am_ H; clear H; obtain ⟨Ao8, co8, eo8⟩ := Kd.R_slice HO_7.out; subst eo8; go_wp2; go_meet
     case rel => exact ⟨_, (decide ((x7_1.length : Int) < a2)), u15_, H', ⟨u104_⟩, ⟨u92_⟩, ⟨u0_⟩⟩
    ·rw [if_neg c7] at H; have c7b0 : decide (x9_1 < (a0.size : Int)) = false := decide_eq_false c7; clear c7; (first | rw [c7b0] | (simp only [i64_w, i32_w]; rw [c7b0]) | skip)
     have H' := am_ H; clear H; go_wp2; go_meet
     case rel => exact ⟨_, (false), u15_, H', ⟨u104_⟩, ⟨u92_⟩, ⟨u0_⟩⟩
   case rest =>
    clear HC6; try clear p2
    try clear c7
    try clear c7b0
    try clear p2
    obtain ⟨kq, x20_5, rfl, HA, HJ5, HO_7, HB⟩ := hcut; cases kq with
    | zero => exact absurd HA.out (by simp [spec_l1Cut.j1])
    | succ kj5 =>
     have H := HA.out; clear HA; simp only [spec_l1Cut.j1] at H; by_cases c9 : x20_5 = true
     ·subst c9; have H1 : (if 0 ≤ x9_1 then (if x9_1 < (a0.size : Int) then (if (bt a0 x9_1) = a1 then (if 0 ≤ x8_1 then (if x8_1 ≤ x9_1 then (if x9_1 ≤ (a0.size : Int) then (if x7_1.length < 8796093022208 then (spec_l1Cut.l0 kj5 a0 a1 a2 (x7_1 ++ [a0.extract (x8_1 : Int).toNat (x9_1 : Int).toNat]) (wrap64 (x9_1 + 1)) (wrap64 (x9_1 + 1))) else (none)) else (none)) else (none)) else (none)) else (spec_l1Cut.l0 kj5 a0 a1 a2 x7_1 x8_1 (wrap64 (x9_1 + 1)))) else (none)) else (none)) = some r := by rw [if_pos rfl] at H; exact H
      clear H; have H := H1; clear H1; by_cases c10 : 0 ≤ x9_1
      ·rw [if_pos c10] at H; have c10b0 : decide (0 ≤ x9_1) = true := decide_eq_true c10; clear c10; by_cases c11 : x9_1 < (a0.size : Int)
       ·rw [if_pos c11] at H; have c11b0 : decide (x9_1 < (a0.size : Int)) = true := decide_eq_true c11; clear c11; by_cases c13 : (bt a0 x9_1) = a1
        ·rw [if_pos c13] at H; have c13b0 : ((bt a0 x9_1) == a1) = true := beq_iff_eq.mpr c13; have c13b1 : ((bt a0 x9_1) != a1) = false := bne_eq_false_iff_eq.mpr c13; clear c13; by_cases c14 : 0 ≤ x8_1
         ·rw [if_pos c14] at H; have c14b0 := eq_true c14; have c14b1 : decide (0 ≤ x8_1) = true := decide_eq_true c14; clear c14; by_cases c15 : x8_1 ≤ x9_1
          ·rw [if_pos c15] at H; have c15b0 := eq_true c15; have c15b1 : decide (x8_1 ≤ x9_1) = true := decide_eq_true c15; clear c15; by_cases c16 : x9_1 ≤ (a0.size : Int)
           ·rw [if_pos c16] at H; have c16b0 := eq_true c16; have c16b1 : decide (x9_1 ≤ (a0.size : Int)) = true := decide_eq_true c16; clear c16; by_cases c17 : x7_1.length < 8796093022208
            ·rw [if_pos c17] at H; have LMc17 := am_ c17; clear c17; obtain ⟨y124, hy124⟩ : ∃ y_ : List ByteArray, y_ = (x7_1 ++ [a0.extract (x8_1 : Int).toNat (x9_1 : Int).toNat]) := ⟨_, rfl⟩; replace H : (spec_l1Cut.l0 kj5 a0 a1 a2 y124 (wrap64 (x9_1 + 1)) (wrap64 (x9_1 + 1))) = some r := by first | (rw [hy124]; with_reducible exact H) | (have H2_ := (Option.bind_some _ _).symm.trans H; rw [hy124]; with_reducible exact H2_) | (have H2_ := (Option.bind_some _ _).symm.trans H; with_reducible exact H2_) | with_reducible exact H | (rw [hy124]; exact H) | exact H
             have Ny124 := am_ hy124; clear hy124; have H' := am_ H; clear H; have p12 : 0 ≤ (x9_1 : Int) := of_decide_eq_true u4_; have q12 : x9_1 < (a0.size : Int) := of_decide_eq_true u4_; have hx12 := bt_at a0 x9_1; replace p12 := eq_true p12; replace q12 := eq_true q12; go_wp2_with (first | ((with_reducible refine gate_builtin (b := .append) (xs := #[.tmp 28, .tmp 33]) rfl ?_); (try (refine gate_guard u45_ ?_; dsimp only)); at_builtin; refine Kd.R_append Kd.string (w0 := w) w.heap.size rfl (.tmp 28) (.tmp 33) 40 9 (.string ⟨#[]⟩) 16 rfl Tryz.underlying40 info9 rfl u57_ u110_ u7 x7_1 (a0.extract (x8_1 : Int).toNat (x9_1 : Int).toNat) [.string (a0.extract (x8_1 : Int).toNat (x9_1 : Int).toNat)] (fun _ => True) (fun _ => False) rfl rfl ?aP (fun _ hk => hk.elim) ?aF ?aO ?aB ?aS ?aL ?_; (case aP => exact rfl); (case aB => exact u0_); (case aF => exact (fun _ _ => trivial)); (case aO => exact u92_); (case aS => exact (below_size u0_)); (case aL => have := LMc17.out; omega); intro v125 w18 ho hb hg hat; rw [← Ny124.out] at ho; replace HB := am_ (hb); have HO126 := am_ (ho); clear HO_7 ho hb hg hat))
             go_roundg kj5
             case measure => have := HK1.out; have := HJ5.out; omega
             case rel => exact ⟨(y124), (wrap64 (x9_1 + 1)), (wrap64 (x9_1 + 1)), u15_, u15_, H', ⟨by have := HK1.out; have := HJ5.out; omega⟩, ⟨by (with_reducible repeat (first | apply Kd.R_alloc | apply Kd.R_drewN | apply Kd.R_drew)); exact HO126.out⟩, ⟨u0_⟩⟩
            ·rw [if_neg c17] at H; exact absurd H u91_
           ·rw [if_neg c16] at H; exact absurd H u91_
          ·rw [if_neg c15] at H; exact absurd H u91_
         ·rw [if_neg c14] at H; exact absurd H u91_
        ·rw [if_neg c13] at H; have c13b0 : ((bt a0 x9_1) == a1) = false := beq_eq_false_iff_ne.mpr c13; have c13b1 : ((bt a0 x9_1) != a1) = true := bne_iff_ne.mpr c13; have H' := am_ H; clear H; have p12 : 0 ≤ (x9_1 : Int) := of_decide_eq_true u4_; have q12 : x9_1 < (a0.size : Int) := of_decide_eq_true u4_; have hx12 := bt_at a0 x9_1; replace p12 := eq_true p12; replace q12 := eq_true q12; go_wp2; go_roundg kj5
         case measure => have := HK1.out; have := HJ5.out; omega
         case rel => exact ⟨(x7_1), (x8_1), (wrap64 (x9_1 + 1)), u15_, u15_, H', ⟨by have := HK1.out; have := HJ5.out; omega⟩, ⟨u92_⟩, ⟨u0_⟩⟩
       ·exact u171_
      ·rw [if_neg c10] at H; exact absurd H u91_
     ·replace c9 := Bool.eq_false_iff.mpr c9; subst c9; have H1 : (if 0 ≤ x8_1 then (if x8_1 ≤ (a0.size : Int) then (if x7_1.length < 8796093022208 then (some (x7_1 ++ [a0.extract (x8_1 : Int).toNat a0.size])) else (none)) else (none)) else (none)) = some r := by rw [if_neg (show ¬ (false = true) by decide)] at H; exact H
      clear H; have H := H1; clear H1; by_cases c19 : 0 ≤ x8_1
      ·rw [if_pos c19] at H; have c19b0 := eq_true c19; have c19b1 : decide (0 ≤ x8_1) = true := decide_eq_true c19; clear c19; by_cases c20 : x8_1 ≤ (a0.size : Int)
       ·rw [if_pos c20] at H; have c20b0 := eq_true c20; have c20b1 : decide (x8_1 ≤ (a0.size : Int)) = true := decide_eq_true c20; clear c20; by_cases c21 : x7_1.length < 8796093022208
        ·rw [if_pos c21] at H; have LMc21 := am_ c21; clear c21; obtain ⟨y127, hy127⟩ : ∃ y_ : List ByteArray, y_ = (x7_1 ++ [a0.extract (x8_1 : Int).toNat a0.size]) := ⟨_, rfl⟩; replace H : (some y127) = some r := by first | (rw [hy127]; with_reducible exact H) | (have H2_ := (Option.bind_some _ _).symm.trans H; rw [hy127]; with_reducible exact H2_) | (have H2_ := (Option.bind_some _ _).symm.trans H; with_reducible exact H2_) | with_reducible exact H | (rw [hy127]; exact H) | exact H
         have Ny127 := am_ hy127; clear hy127; obtain rfl := Option.some.inj H; go_wp2_with (first | ((with_reducible refine gate_builtin (b := .append) (xs := #[.tmp 37, .tmp 41]) rfl ?_); (try (refine gate_guard u45_ ?_; dsimp only)); at_builtin; refine Kd.R_append Kd.string (w0 := w) w.heap.size rfl (.tmp 37) (.tmp 41) 40 9 (.string ⟨#[]⟩) 16 rfl Tryz.underlying40 info9 rfl u57_ u110_ u7 x7_1 (a0.extract (x8_1 : Int).toNat a0.size) [.string (a0.extract (x8_1 : Int).toNat a0.size)] (fun _ => True) (fun _ => False) rfl rfl ?aP (fun _ hk => hk.elim) ?aF ?aO ?aB ?aS ?aL ?_; (case aP => exact rfl); (case aB => exact u0_); (case aF => exact (fun _ _ => trivial)); (case aO => exact u92_); (case aS => exact (below_size u0_)); (case aL => have := LMc21.out; omega); intro v128 w22 ho hb hg hat; rw [← Ny127.out] at ho; replace HB := am_ (hb); have HO129 := am_ (ho); clear HO_7 ho hb hg hat))
         go_ret
         exact ⟨_, u5_, by (with_reducible repeat (first | apply Kd.R_alloc | apply Kd.R_drewN | apply Kd.R_drew)); exact HO129.out, u0_⟩
        ·rw [if_neg c21] at H; exact absurd H u91_
       ·rw [if_neg c20] at H; exact absurd H u91_
      ·rw [if_neg c19] at H; exact absurd H u91_

end Go.Proofs.YtelcdhjdlgedeaaGreatDoor.PFnExactDocTags
