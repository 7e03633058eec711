/- Contracts of Go functions that the law FnExactDocTags reaches: each is told as a plain Lean function, with the walk that shows it; no condition beyond what each states. Written by a program of this session round the kit's printer. -/
import Derived.Test.YtelcdhjdlgedeaaGreatDoorVPFnExactDocTagsx0
import Derived.Test.YtelcdhjdlgedeaaGreatDoorVPFnExactDocTagsx10
namespace Go.Proofs.YtelcdhjdlgedeaaGreatDoor.PFnExactDocTags
open Go.RowKit Go.Proofs.YtelcdhjdlgedeaaGreatDoorW.PrintWords Go.Proofs.YtelcdhjdlgedeaaGreatDoorW.PrintLast Go.Proofs.YtelcdhjdlgedeaaGreatDoorW.PrintMore
attribute [local go_sem] run_str_geq run_str_leq max2_int min2_int max_two min_two max_three min_three max_four min_four   -- for this text's walks alone
set_option linter.unusedVariables false
set_option linter.unusedSimpArgs false

/-! ### laws_eqCellS: function 46 -/
def laws_eqCellS.l0 : Nat → List (S96) → List (S96) → Int → Option (Bool)
 | 0, _, _, _ => none
 | k + 1, x0, x1, x5 => if x5 < (x0.length : Int) then (if 0 ≤ x5 then (if x5 < (x1.length : Int) then ((laws_eqCell.f ((rd_T96 x0 x5).f0) ((rd_T96 x0 x5).f1) ((rd_T96 x1 x5).f0) ((rd_T96 x1 x5).f1)).bind fun t373 => (if t373 = true then (laws_eqCellS.l0 k x0 x1 (wrap64 (x5 + 1))) else (some false))) else (none)) else (none)) else (some true)
def laws_eqCellS.f (k : Nat) (l0 : List (S96)) (l1 : List (S96)) : Option (Bool) := if (l0.length : Int) = (l1.length : Int) then (laws_eqCellS.l0 k l0 l1 0) else (some false)
theorem laws_eqCellS.mono_l : ∀ k, (∀ y0 y1 y2, LeO (laws_eqCellS.l0 k y0 y1 y2) (laws_eqCellS.l0 (k + 1) y0 y1 y2))
 | 0 => fun _ _ _ r h => by simp [laws_eqCellS.l0] at h
 | k + 1 => by
  have ih0 := laws_eqCellS.mono_l k
  ·intro y0 y1 y2; unfold laws_eqCellS.l0
   repeat' first
   | (with_reducible exact ih0 _ _ _)
   | (with_reducible exact LeO.refl _)
   | (with_reducible exact LeO.none _)
   | (with_reducible refine LeO.ite ?_ ?_)
   | (with_reducible refine LeO.bind ?_ (fun _ => ?_))
   | exact ih0 _ _ _
   | exact LeO.none _
   | refine LeO.ite ?_ ?_
   | refine LeO.bind ?_ (fun _ => ?_)
theorem laws_eqCellS.mono : ∀ a0 a1 k, LeO (laws_eqCellS.f k a0 a1) (laws_eqCellS.f (k + 1) a0 a1) := by
 intro a0 a1 k; have ih0 := laws_eqCellS.mono_l k; unfold laws_eqCellS.f
 repeat' first
   | (with_reducible exact ih0 _ _ _)
   | (with_reducible exact LeO.refl _)
   | (with_reducible exact LeO.none _)
   | (with_reducible refine LeO.ite ?_ ?_)
   | (with_reducible refine LeO.bind ?_ (fun _ => ?_))
   | exact ih0 _ _ _
   | exact LeO.none _
   | refine LeO.ite ?_ ?_
   | refine LeO.bind ?_ (fun _ => ?_)
def laws_eqCellS.T6 : Bool × List (List Nat × List Nat) := (true, [([], []), ([], []), ([0, 1], [0, 1]), ([2], [2]), ([], []), ([], []), ([4, 5], [4, 5]), ([6], [6]), ([3, 7], [3, 7]), ([8], [8])])
def laws_eqCellS.B6 : List Nat := [0, 0, 3, 7, 0, 0, 48, 112, 255, 511]
theorem laws_eqCellS.tab6 : rtab .any (opsOf Tryz.f46 6) = laws_eqCellS.T6 := by kernel_rfl
theorem laws_eqCellS.bits6 : waitsOk laws_eqCellS.T6.2 laws_eqCellS.B6 = true := by kernel_rfl
set_option maxHeartbeats 8000000 in
set_option maxRecDepth 100000 in
theorem laws_eqCellS.calls (k : Nat) (A0 : Option Addr) (c0 : Nat) (l0 : List (S96)) (A1 : Option Addr) (c1 : Nat) (l1 : List (S96)) (r : Bool) (w : World) (hr0 : Kd.C k96 w A0 l0.length l0) (hc0 : l0.length ≤ c0) (hr1 : Kd.C k96 w A1 l1.length l1) (hc1 : l1.length ≤ c1) (h : laws_eqCellS.f k l0 l1 = some r) :
  Calls Tryz.prog 46 #[.slice A0 l0.length c0, .slice A1 l1.length c1] w fun e w' => e = .returned (.bool r) ∧ Below w.heap.size w w' := by
 have hu96 := Tryz.underlying96; have HR0 := am_ hr0; have HC0 := am_ hc0; clear hr0 hc0; have HR1 := am_ hr1; have HC1 := am_ hc1; clear hr1 hc1; have HB := am_ (Below.refl w.heap.size w); have H : (if (l0.length : Int) = (l1.length : Int) then (laws_eqCellS.l0 k l0 l1 0) else (some false)) = some r := h; clear h; by_cases c3 : (l0.length : Int) = (l1.length : Int)
 ·rw [if_pos c3] at H; have c3b0 : ((l0.length : Int) == (l1.length : Int)) = true := beq_iff_eq.mpr c3; have c3b1 : ((l0.length : Int) != (l1.length : Int)) = false := bne_eq_false_iff_eq.mpr c3; have c3b2 : (l0.length == l1.length) = true := by first | simpa using c3 | (simp at c3 ⊢; omega)
  clear c3; have H' := am_ H; clear H; go_enter Tryz.func46, Tryz.ntmps46
  go_wp2; go_loopg [5] k (fun kq v5 w' => ∃ (x5_1 : Int), v5 = .int .i64 x5_1 ∧ Aside0 (laws_eqCellS.l0 kq l0 l1 x5_1 = some r) ∧ Aside0 (kq ≤ k) ∧ Aside0 (Below w.heap.size w w'))
  case atStart => exact ⟨(0), u15_, H', ⟨Nat.le_refl _⟩, ⟨u0_⟩⟩
  case round =>
   clear H'; try clear c1
   try clear p2
   try clear c3
   try clear c3b0
   try clear c3b1
   try clear c3b2
   obtain ⟨x5_1, rfl, HA, HK1, HB⟩ := hrel; cases gk with
   | zero => exact absurd HA.out (by simp [laws_eqCellS.l0])
   | succ k1 =>
    have H := HA.out; clear HA; simp only [laws_eqCellS.l0] at H; by_cases c4 : x5_1 < (l0.length : Int)
    ·rw [if_pos c4] at H; have c4b0 : decide (x5_1 < (l0.length : Int)) = true := decide_eq_true c4; clear c4; by_cases c5 : 0 ≤ x5_1
     ·rw [if_pos c5] at H; have c5b0 : decide (0 ≤ x5_1) = true := decide_eq_true c5; clear c5; by_cases c6 : x5_1 < (l1.length : Int)
      ·rw [if_pos c6] at H; have c6b0 : decide (x5_1 < (l1.length : Int)) = true := decide_eq_true c6; clear c6; replace H := Option.bind_eq_some_iff.mp H; obtain ⟨t373, A70, H⟩ := H; replace H : (if t373 = true then (laws_eqCellS.l0 k1 l0 l1 (wrap64 (x5_1 + 1))) else (some false)) = some r := H; have A7 := am_ A70; clear A70; by_cases c8 : t373 = true
       ·subst c8; have H1 : (laws_eqCellS.l0 k1 l0 l1 (wrap64 (x5_1 + 1))) = some r := by rw [if_pos rfl] at H; exact H
        clear H; have H := H1; clear H1; have H' := am_ H; clear H; try go_wp2
        replace HB := am_ (below_drew1 HB.out); have p371 : 0 ≤ (x5_1 : Int) := of_decide_eq_true u4_; have q371 : x5_1 < (l0.length : Int) := of_decide_eq_true u4_; obtain ⟨ad371, e371, hx371_0, hx371_1⟩ := at_T96 HR0.out x5_1 p371 q371; have hw371_1 := hx371_1; have hw371_0 := hx371_0; cases e371; replace hx371_0 := (HB.out.cell (World.block_lt_of_cell? w _ hx371_0)).trans hx371_0; replace hx371_1 := (HB.out.cell (World.block_lt_of_cell? w _ hx371_1)).trans hx371_1; replace p371 := eq_true p371; replace q371 := eq_true q371; have p372 : 0 ≤ (x5_1 : Int) := of_decide_eq_true u4_; have q372 : x5_1 < (l1.length : Int) := of_decide_eq_true u4_; obtain ⟨ad372, e372, hx372_0, hx372_1⟩ := at_T96 HR1.out x5_1 p372 q372; have hw372_1 := hx372_1; have hw372_0 := hx372_0; cases e372; replace hx372_0 := (HB.out.cell (World.block_lt_of_cell? w _ hx372_0)).trans hx372_0; replace hx372_1 := (HB.out.cell (World.block_lt_of_cell? w _ hx372_1)).trans hx372_1; replace p372 := eq_true p372; replace q372 := eq_true q372; refine start_ (n := 10) (S := fun w' => w'.cell? (ad371.add ((x5_1).toNat * 2)) = some (.string ((rd_T96 l0 x5_1).f0)) ∧ w'.cell? ⟨(ad371.add ((x5_1).toNat * 2)).block, (ad371.add ((x5_1).toNat * 2)).off + 1, none⟩ = some (.string ((rd_T96 l0 x5_1).f1)) ∧ w'.cell? (ad372.add ((x5_1).toNat * 2)) = some (.string ((rd_T96 l1 x5_1).f0)) ∧ w'.cell? ⟨(ad372.add ((x5_1).toNat * 2)).block, (ad372.add ((x5_1).toNat * 2)).off + 1, none⟩ = some (.string ((rd_T96 l1 x5_1).f1))) (ds := []) #[f_, f_, f_, f_, f_, f_, f_, f_, f_, f_] u8_ rfl rfl ⟨((HB.out.cell (World.block_lt_of_cell? w _ hw371_0)).trans hw371_0), ((HB.out.cell (World.block_lt_of_cell? w _ hw371_1)).trans hw371_1), ((HB.out.cell (World.block_lt_of_cell? w _ hw372_0)).trans hw372_0), ((HB.out.cell (World.block_lt_of_cell? w _ hw372_1)).trans hw372_1)⟩ (fun hHeld => ?_); refine with_tabW laws_eqCellS.tab6 laws_eqCellS.bits6 (fun HT_ HW_ => ?_); generalize wr.drew = w9 at HB hx371_0 hx371_1 hx372_0 hx372_1 hHeld ⊢; refine pure_ (i := 0) (N := some 17) (v := ?_) (a' := ?_) #[t_, f_, f_, f_, f_, f_, f_, f_, f_, f_] rfl rfl (any_of HT_.out u8_) (fun _ _ _ h => h) (Or.inl ⟨u45_, ?_⟩) ?_ ?_; rotate_left
        ·exact u9_
        rotate_left
        ·exact u1_
        refine pure_ (i := 1) (N := some 18) (v := ?_) (a' := ?_) #[t_, t_, f_, f_, f_, f_, f_, f_, f_, f_] rfl rfl (any_of HT_.out u8_) (fun _ _ _ h => h) (Or.inl ⟨u45_, ?_⟩) ?_ ?_; rotate_left
        ·exact u9_
        rotate_left
        ·exact u1_
        refine pure_ (i := 2) (N := some 19) (v := ?_) (a' := ?_) #[t_, t_, t_, f_, f_, f_, f_, f_, f_, f_] rfl rfl (any_of HT_.out u8_) (fun _ _ _ h => h) (Or.inl ⟨u45_, ?_⟩) ?_ ?_; rotate_left
        ·exact u9_
        rotate_left
        ·exact u1_
        refine pure_ (i := 4) (N := some 21) (v := ?_) (a' := ?_) #[t_, t_, t_, f_, t_, f_, f_, f_, f_, f_] rfl rfl (any_of HT_.out u8_) (fun _ _ _ h => h) (Or.inl ⟨u45_, ?_⟩) ?_ ?_; rotate_left
        ·exact u9_
        rotate_left
        ·exact u1_
        refine pure_ (i := 5) (N := some 22) (v := ?_) (a' := ?_) #[t_, t_, t_, f_, t_, t_, f_, f_, f_, f_] rfl rfl (any_of HT_.out u8_) (fun _ _ _ h => h) (Or.inl ⟨u45_, ?_⟩) ?_ ?_; rotate_left
        ·exact u9_
        rotate_left
        ·exact u1_
        refine pure_ (i := 6) (N := some 23) (v := ?_) (a' := ?_) #[t_, t_, t_, f_, t_, t_, t_, f_, f_, f_] rfl rfl (any_of HT_.out u8_) (fun _ _ _ h => h) (Or.inl ⟨u45_, ?_⟩) ?_ ?_; rotate_left
        ·exact u9_
        rotate_left
        ·exact u1_
        refine take_ (i := 3) (N := some 20) (v := ?_) (a' := ?_) #[t_, t_, t_, t_, t_, t_, t_, f_, f_, f_] rfl rfl (take_ofW HT_.out HW_.out u8_) (fun _ _ _ h => h) (Or.inl ⟨u45_, ?_⟩) hHeld ?_ ?_; rotate_left
        ·exact u88_
        rotate_left
        ·exact u1_
        refine take_ (i := 7) (N := some 24) (v := ?_) (a' := ?_) #[t_, t_, t_, t_, t_, t_, t_, t_, f_, f_] rfl rfl (take_ofW HT_.out HW_.out u8_) (fun _ _ _ h => h) (Or.inl ⟨u45_, ?_⟩) hHeld ?_ ?_; rotate_left
        ·exact u88_
        rotate_left
        ·exact u1_
        refine one_ (i := 8) (N := some 25) #[t_, t_, t_, t_, t_, t_, t_, t_, t_, f_] rfl rfl (one_of HT_.out u8_) u57_ (fun K hK => ?_); refine goes_ Tryz.func81 u8_ rfl #[.agg #[.string ((rd_T96 l0 x5_1).f0), .string ((rd_T96 l0 x5_1).f1)], .agg #[.string ((rd_T96 l1 x5_1).f0), .string ((rd_T96 l1 x5_1).f1)]] u45_ rfl rfl u2_ ?_; with_reducible refine (laws_eqCell.calls ((rd_T96 l0 x5_1).f0) ((rd_T96 l0 x5_1).f1) ((rd_T96 l1 x5_1).f0) ((rd_T96 l1 x5_1).f1) true _ A7.out).mono ?_
        rintro e w10 ⟨rfl, hb⟩; refine ⟨_, rfl, ?_⟩; replace HB := am_ (below_step u0_ hb); (try clear hb)
        (try clear hb2)
        (try clear hk)
        (try clear hi)
        refine hK.out _ _ ⟨((HB.out.cell (World.block_lt_of_cell? w _ hw371_0)).trans hw371_0), ((HB.out.cell (World.block_lt_of_cell? w _ hw371_1)).trans hw371_1), ((HB.out.cell (World.block_lt_of_cell? w _ hw372_0)).trans hw372_0), ((HB.out.cell (World.block_lt_of_cell? w _ hw372_1)).trans hw372_1)⟩ (fun hHeld => ?_); clear hK K; refine norm_ (a' := ?_) ?_ ?_; rotate_left
        ·show Act.put _ (some 25) _ = _
         simp only [Act.put, List.setIfInBounds_toArray, List.set_cons_zero, List.set_cons_succ, i64_w, i32_w]; rfl
        refine pure_ (i := 9) (N := some 26) (v := ?_) (a' := ?_) #[t_, t_, t_, t_, t_, t_, t_, t_, t_, t_] rfl rfl (any_of HT_.out u8_) (fun _ _ _ h => h) (Or.inl ⟨u45_, ?_⟩) ?_ ?_; rotate_left
        ·exact u9_
        rotate_left
        ·exact u1_
        refine done_ (done_of HT_.out u8_) ?_; try go_wp2
        go_roundg k1
        case measure => have := HK1.out; omega
        case rel => exact ⟨(wrap64 (x5_1 + 1)), u15_, H', ⟨u70_⟩, ⟨u0_⟩⟩
       ·replace c8 := Bool.eq_false_iff.mpr c8; subst c8; have H1 : (some false) = some r := by rw [if_neg (show ¬ (false = true) by decide)] at H; exact H
        clear H; have H := H1; clear H1; obtain rfl := Option.some.inj H; try go_wp2
        replace HB := am_ (below_drew1 HB.out); have p371 : 0 ≤ (x5_1 : Int) := of_decide_eq_true u4_; have q371 : x5_1 < (l0.length : Int) := of_decide_eq_true u4_; obtain ⟨ad371, e371, hx371_0, hx371_1⟩ := at_T96 HR0.out x5_1 p371 q371; have hw371_1 := hx371_1; have hw371_0 := hx371_0; cases e371; replace hx371_0 := (HB.out.cell (World.block_lt_of_cell? w _ hx371_0)).trans hx371_0; replace hx371_1 := (HB.out.cell (World.block_lt_of_cell? w _ hx371_1)).trans hx371_1; replace p371 := eq_true p371; replace q371 := eq_true q371; have p372 : 0 ≤ (x5_1 : Int) := of_decide_eq_true u4_; have q372 : x5_1 < (l1.length : Int) := of_decide_eq_true u4_; obtain ⟨ad372, e372, hx372_0, hx372_1⟩ := at_T96 HR1.out x5_1 p372 q372; have hw372_1 := hx372_1; have hw372_0 := hx372_0; cases e372; replace hx372_0 := (HB.out.cell (World.block_lt_of_cell? w _ hx372_0)).trans hx372_0; replace hx372_1 := (HB.out.cell (World.block_lt_of_cell? w _ hx372_1)).trans hx372_1; replace p372 := eq_true p372; replace q372 := eq_true q372; refine start_ (n := 10) (S := fun w' => w'.cell? (ad371.add ((x5_1).toNat * 2)) = some (.string ((rd_T96 l0 x5_1).f0)) ∧ w'.cell? ⟨(ad371.add ((x5_1).toNat * 2)).block, (ad371.add ((x5_1).toNat * 2)).off + 1, none⟩ = some (.string ((rd_T96 l0 x5_1).f1)) ∧ w'.cell? (ad372.add ((x5_1).toNat * 2)) = some (.string ((rd_T96 l1 x5_1).f0)) ∧ w'.cell? ⟨(ad372.add ((x5_1).toNat * 2)).block, (ad372.add ((x5_1).toNat * 2)).off + 1, none⟩ = some (.string ((rd_T96 l1 x5_1).f1))) (ds := []) #[f_, f_, f_, f_, f_, f_, f_, f_, f_, f_] u8_ rfl rfl ⟨((HB.out.cell (World.block_lt_of_cell? w _ hw371_0)).trans hw371_0), ((HB.out.cell (World.block_lt_of_cell? w _ hw371_1)).trans hw371_1), ((HB.out.cell (World.block_lt_of_cell? w _ hw372_0)).trans hw372_0), ((HB.out.cell (World.block_lt_of_cell? w _ hw372_1)).trans hw372_1)⟩ (fun hHeld => ?_); refine with_tabW laws_eqCellS.tab6 laws_eqCellS.bits6 (fun HT_ HW_ => ?_); generalize wr.drew = w11 at HB hx371_0 hx371_1 hx372_0 hx372_1 hHeld ⊢; refine pure_ (i := 0) (N := some 17) (v := ?_) (a' := ?_) #[t_, f_, f_, f_, f_, f_, f_, f_, f_, f_] rfl rfl (any_of HT_.out u8_) (fun _ _ _ h => h) (Or.inl ⟨u45_, ?_⟩) ?_ ?_; rotate_left
        ·exact u9_
        rotate_left
        ·exact u1_
        refine pure_ (i := 1) (N := some 18) (v := ?_) (a' := ?_) #[t_, t_, f_, f_, f_, f_, f_, f_, f_, f_] rfl rfl (any_of HT_.out u8_) (fun _ _ _ h => h) (Or.inl ⟨u45_, ?_⟩) ?_ ?_; rotate_left
        ·exact u9_
        rotate_left
        ·exact u1_
        refine pure_ (i := 2) (N := some 19) (v := ?_) (a' := ?_) #[t_, t_, t_, f_, f_, f_, f_, f_, f_, f_] rfl rfl (any_of HT_.out u8_) (fun _ _ _ h => h) (Or.inl ⟨u45_, ?_⟩) ?_ ?_; rotate_left
        ·exact u9_
        rotate_left
        ·exact u1_
        refine pure_ (i := 4) (N := some 21) (v := ?_) (a' := ?_) #[t_, t_, t_, f_, t_, f_, f_, f_, f_, f_] rfl rfl (any_of HT_.out u8_) (fun _ _ _ h => h) (Or.inl ⟨u45_, ?_⟩) ?_ ?_; rotate_left
        ·exact u9_
        rotate_left
        ·exact u1_
        refine pure_ (i := 5) (N := some 22) (v := ?_) (a' := ?_) #[t_, t_, t_, f_, t_, t_, f_, f_, f_, f_] rfl rfl (any_of HT_.out u8_) (fun _ _ _ h => h) (Or.inl ⟨u45_, ?_⟩) ?_ ?_; rotate_left
        ·exact u9_
        rotate_left
        ·exact u1_
        refine pure_ (i := 6) (N := some 23) (v := ?_) (a' := ?_) #[t_, t_, t_, f_, t_, t_, t_, f_, f_, f_] rfl rfl (any_of HT_.out u8_) (fun _ _ _ h => h) (Or.inl ⟨u45_, ?_⟩) ?_ ?_; rotate_left
        ·exact u9_
        rotate_left
        ·exact u1_
        refine take_ (i := 3) (N := some 20) (v := ?_) (a' := ?_) #[t_, t_, t_, t_, t_, t_, t_, f_, f_, f_] rfl rfl (take_ofW HT_.out HW_.out u8_) (fun _ _ _ h => h) (Or.inl ⟨u45_, ?_⟩) hHeld ?_ ?_; rotate_left
        ·exact u88_
        rotate_left
        ·exact u1_
        refine take_ (i := 7) (N := some 24) (v := ?_) (a' := ?_) #[t_, t_, t_, t_, t_, t_, t_, t_, f_, f_] rfl rfl (take_ofW HT_.out HW_.out u8_) (fun _ _ _ h => h) (Or.inl ⟨u45_, ?_⟩) hHeld ?_ ?_; rotate_left
        ·exact u88_
        rotate_left
        ·exact u1_
        refine one_ (i := 8) (N := some 25) #[t_, t_, t_, t_, t_, t_, t_, t_, t_, f_] rfl rfl (one_of HT_.out u8_) u57_ (fun K hK => ?_); refine goes_ Tryz.func81 u8_ rfl #[.agg #[.string ((rd_T96 l0 x5_1).f0), .string ((rd_T96 l0 x5_1).f1)], .agg #[.string ((rd_T96 l1 x5_1).f0), .string ((rd_T96 l1 x5_1).f1)]] u45_ rfl rfl u2_ ?_; with_reducible refine (laws_eqCell.calls ((rd_T96 l0 x5_1).f0) ((rd_T96 l0 x5_1).f1) ((rd_T96 l1 x5_1).f0) ((rd_T96 l1 x5_1).f1) false _ A7.out).mono ?_
        rintro e w12 ⟨rfl, hb⟩; refine ⟨_, rfl, ?_⟩; replace HB := am_ (below_step u0_ hb); (try clear hb)
        (try clear hb2)
        (try clear hk)
        (try clear hi)
        refine hK.out _ _ ⟨((HB.out.cell (World.block_lt_of_cell? w _ hw371_0)).trans hw371_0), ((HB.out.cell (World.block_lt_of_cell? w _ hw371_1)).trans hw371_1), ((HB.out.cell (World.block_lt_of_cell? w _ hw372_0)).trans hw372_0), ((HB.out.cell (World.block_lt_of_cell? w _ hw372_1)).trans hw372_1)⟩ (fun hHeld => ?_); clear hK K; refine norm_ (a' := ?_) ?_ ?_; rotate_left
        ·show Act.put _ (some 25) _ = _
         simp only [Act.put, List.setIfInBounds_toArray, List.set_cons_zero, List.set_cons_succ, i64_w, i32_w]; rfl
        refine pure_ (i := 9) (N := some 26) (v := ?_) (a' := ?_) #[t_, t_, t_, t_, t_, t_, t_, t_, t_, t_] rfl rfl (any_of HT_.out u8_) (fun _ _ _ h => h) (Or.inl ⟨u45_, ?_⟩) ?_ ?_; rotate_left
        ·exact u9_
        rotate_left
        ·exact u1_
        refine done_ (done_of HT_.out u8_) ?_; try go_wp2
        go_ret
        exact ⟨u5_, u0_⟩
      ·exact u168_
     ·exact u153_
    ·rw [if_neg c4] at H; have c4b0 : decide (x5_1 < (l0.length : Int)) = false := decide_eq_false c4; clear c4; obtain rfl := Option.some.inj H; go_wp2; go_ret
     exact ⟨u5_, u0_⟩
 ·rw [if_neg c3] at H; have c3b0 : ((l0.length : Int) == (l1.length : Int)) = false := beq_eq_false_iff_ne.mpr c3; have c3b1 : ((l0.length : Int) != (l1.length : Int)) = true := bne_iff_ne.mpr c3; have c3b2 : (l0.length == l1.length) = false := by first | simpa using c3 | (simp at c3 ⊢; omega)
  obtain rfl := Option.some.inj H; go_enter Tryz.func46, Tryz.ntmps46
  go_wp2; go_ret
  exact ⟨u5_, u0_⟩

/-! ### laws_eqDoc: function 18 -/
def laws_eqDoc.f (k : Nat) (a0_0 : ByteArray) (l0_1 : List (S96)) (a1_0 : ByteArray) (l1_1 : List (S96)) : Option (Bool) := if a0_0.toList = a1_0.toList then ((laws_eqCellS.f k l0_1 l1_1).bind fun t376 => (if t376 = true then (some true) else (some false))) else (some false)
theorem laws_eqDoc.mono : ∀ a0 a1 a2 a3 k, LeO (laws_eqDoc.f k a0 a1 a2 a3) (laws_eqDoc.f (k + 1) a0 a1 a2 a3) := by
 intro a0 a1 a2 a3 k; unfold laws_eqDoc.f
 repeat' first
   | (with_reducible exact laws_eqCellS.mono _ _ _)
   | (with_reducible exact LeO.refl _)
   | (with_reducible exact LeO.none _)
   | (with_reducible refine LeO.ite ?_ ?_)
   | (with_reducible refine LeO.bind ?_ (fun _ => ?_))
   | exact laws_eqCellS.mono _ _ _
   | exact LeO.none _
   | refine LeO.ite ?_ ?_
   | refine LeO.bind ?_ (fun _ => ?_)
set_option maxHeartbeats 8000000 in
set_option maxRecDepth 100000 in
theorem laws_eqDoc.calls (k : Nat) (a0_0 : ByteArray) (A0_1 : Option Addr) (c0_1 : Nat) (l0_1 : List (S96)) (a1_0 : ByteArray) (A1_1 : Option Addr) (c1_1 : Nat) (l1_1 : List (S96)) (r : Bool) (w : World) (hr0_1 : Kd.C k96 w A0_1 l0_1.length l0_1) (hc0_1 : l0_1.length ≤ c0_1) (hr1_1 : Kd.C k96 w A1_1 l1_1.length l1_1) (hc1_1 : l1_1.length ≤ c1_1) (h : laws_eqDoc.f k a0_0 l0_1 a1_0 l1_1 = some r) :
  Calls Tryz.prog 18 #[.agg #[.string a0_0, .slice A0_1 l0_1.length c0_1], .agg #[.string a1_0, .slice A1_1 l1_1.length c1_1]] w fun e w' => e = .returned (.bool r) ∧ Below w.heap.size w w' := by
 have hu45 := Tryz.underlying45; have HR0_1 := am_ hr0_1; have HC0_1 := am_ hc0_1; clear hr0_1 hc0_1; have HR1_1 := am_ hr1_1; have HC1_1 := am_ hc1_1; clear hr1_1 hc1_1; have HB := am_ (Below.refl w.heap.size w); have H : (if a0_0.toList = a1_0.toList then ((laws_eqCellS.f k l0_1 l1_1).bind fun t376 => (if t376 = true then (some true) else (some false))) else (some false)) = some r := h; clear h; by_cases c3 : a0_0.toList = a1_0.toList
 ·rw [if_pos c3] at H; have c3b0 : (a0_0.toList == a1_0.toList) = true := beq_iff_eq.mpr c3; have c3b1 : (a0_0.toList != a1_0.toList) = false := bne_eq_false_iff_eq.mpr c3; clear c3; replace H := Option.bind_eq_some_iff.mp H; obtain ⟨t376, A40, H⟩ := H; replace H : (if t376 = true then (some true) else (some false)) = some r := H; have A4 := am_ A40; clear A40; by_cases c5 : t376 = true
  ·subst c5; have H1 : (some true) = some r := by rw [if_pos rfl] at H; exact H
   clear H; have H := H1; clear H1; obtain rfl := Option.some.inj H; go_enter Tryz.func18, Tryz.ntmps18
   go_wp2_with (first | ((with_reducible refine gate_dst (N := 2) rfl ?_); refine box_event ?hg (N := 2) ?hd (cs := #[.string a0_0, .slice A0_1 l0_1.length c0_1]) (t := 45) ?hr ?_; (case hd => rfl); (case hg => rfl); (case hr => first | (go_simp; done) | (go_simp; rfl)); intro gb374 hg w6 hbox hb; have BK374 := am_ (hbox); have GW374 := am_ ((by rw [hg]; exact (below_size u0_) : w.heap.size ≤ gb374)); have GE374 := GW374; replace HB := am_ (below_step u0_ hb); clear hb hbox hg) | ((with_reducible refine gate_dst (N := 3) rfl ?_); refine box_event ?hg (N := 3) ?hd (cs := #[.string a1_0, .slice A1_1 l1_1.length c1_1]) (t := 45) ?hr ?_; (case hd => rfl); (case hg => rfl); (case hr => first | (go_simp; done) | (go_simp; rfl)); intro gb375 hg w7 hbox hb; have BK375 := am_ (hbox); have GW375 := am_ ((by rw [hg]; exact (below_size u61_) : w.heap.size ≤ gb375)); have GE375 := GW375; replace HB := am_ (below_step u61_ hb); have NB374_375 := am_ ((by rw [hg]; exact Nat.ne_of_lt (blk_lt (g := gb374) (o := .cells #[.string a0_0, .slice A0_1 l0_1.length c0_1] 45 (0, 0)) u47_) : gb374 ≠ gb375)); have NB375_374 := am_ ((by rw [hg]; exact Nat.ne_of_gt (blk_lt (g := gb374) (o := .cells #[.string a0_0, .slice A0_1 l0_1.length c0_1] 45 (0, 0)) u47_) : gb375 ≠ gb374)); replace BK374 := am_ (blk_below (g := gb374) (o := .cells #[.string a0_0, .slice A0_1 l0_1.length c0_1] 45 (0, 0)) u47_ hb); clear hb hbox hg; have hnb8 := NB374_375.out; have hnc8 := NB375_374.out; have hcz9_0 : w7.cell? ⟨gb374, 0, none⟩ = some (.string a0_0) := (blk_cell BK374.out 0).trans rfl; have hcz9_1 : w7.cell? ⟨gb374, 1, none⟩ = some (.slice A0_1 l0_1.length c0_1) := (blk_cell BK374.out 1).trans rfl; have hfz9_0 := blk_frozen BK374.out 0; have hfz9_1 := blk_frozen BK374.out 1; have hcz10_0 : w7.cell? ⟨gb375, 0, none⟩ = some (.string a1_0) := (blk_cell BK375.out 0).trans rfl; have hcz10_1 : w7.cell? ⟨gb375, 1, none⟩ = some (.slice A1_1 l1_1.length c1_1) := (blk_cell BK375.out 1).trans rfl; have hfz10_0 := blk_frozen BK375.out 0; have hfz10_1 := blk_frozen BK375.out 1) | ((with_reducible refine gate_callee (f := 46) rfl ?_); refine goesL_ (some 14) rfl rfl Tryz.func46 u8_ rfl #[.slice A0_1 l0_1.length c0_1, .slice A1_1 l1_1.length c1_1] rfl u2_ ?_; (with_reducible refine (laws_eqCellS.calls k _ _ l0_1 _ _ l1_1 true _ ?side1 ?side2 ?side3 ?side4 A4.out).mono ?_); (case side1 => repeat (first | exact (Kd.C_below HR0_1.out HB.out) | (with_reducible refine Kd.C_alloc ?_ _) | (with_reducible refine Kd.C_drewN ?_ _) | (with_reducible refine Kd.C_drew ?_))); (case side2 => exact HC0_1.out); (case side3 => repeat (first | exact (Kd.C_below HR1_1.out HB.out) | (with_reducible refine Kd.C_alloc ?_ _) | (with_reducible refine Kd.C_drewN ?_ _) | (with_reducible refine Kd.C_drew ?_))); (case side4 => exact HC1_1.out); rintro e w11 ⟨rfl, hb⟩; refine ⟨_, rfl, ?_⟩; replace BK374 := am_ (blk_below (g := gb374) (o := .cells #[.string a0_0, .slice A0_1 l0_1.length c0_1] 45 (0, 0)) u47_ hb); replace BK375 := am_ (blk_below (g := gb375) (o := .cells #[.string a1_0, .slice A1_1 l1_1.length c1_1] 45 (0, 0)) u140_ hb); replace HB := am_ (below_step u63_ hb); (try clear hb); (try clear hb2); (try clear hk); (try clear hi)))
   go_ret
   exact ⟨u5_, u63_⟩
  ·replace c5 := Bool.eq_false_iff.mpr c5; subst c5; have H1 : (some false) = some r := by rw [if_neg (show ¬ (false = true) by decide)] at H; exact H
   clear H; have H := H1; clear H1; obtain rfl := Option.some.inj H; go_enter Tryz.func18, Tryz.ntmps18
   go_wp2_with (first | ((with_reducible refine gate_dst (N := 2) rfl ?_); refine box_event ?hg (N := 2) ?hd (cs := #[.string a0_0, .slice A0_1 l0_1.length c0_1]) (t := 45) ?hr ?_; (case hd => rfl); (case hg => rfl); (case hr => first | (go_simp; done) | (go_simp; rfl)); intro gb374 hg w12 hbox hb; have BK374 := am_ (hbox); have GW374 := am_ ((by rw [hg]; exact (below_size u0_) : w.heap.size ≤ gb374)); have GE374 := GW374; replace HB := am_ (below_step u0_ hb); clear hb hbox hg) | ((with_reducible refine gate_dst (N := 3) rfl ?_); refine box_event ?hg (N := 3) ?hd (cs := #[.string a1_0, .slice A1_1 l1_1.length c1_1]) (t := 45) ?hr ?_; (case hd => rfl); (case hg => rfl); (case hr => first | (go_simp; done) | (go_simp; rfl)); intro gb375 hg w13 hbox hb; have BK375 := am_ (hbox); have GW375 := am_ ((by rw [hg]; exact (below_size u61_) : w.heap.size ≤ gb375)); have GE375 := GW375; replace HB := am_ (below_step u61_ hb); have NB374_375 := am_ ((by rw [hg]; exact Nat.ne_of_lt (blk_lt (g := gb374) (o := .cells #[.string a0_0, .slice A0_1 l0_1.length c0_1] 45 (0, 0)) u47_) : gb374 ≠ gb375)); have NB375_374 := am_ ((by rw [hg]; exact Nat.ne_of_gt (blk_lt (g := gb374) (o := .cells #[.string a0_0, .slice A0_1 l0_1.length c0_1] 45 (0, 0)) u47_) : gb375 ≠ gb374)); replace BK374 := am_ (blk_below (g := gb374) (o := .cells #[.string a0_0, .slice A0_1 l0_1.length c0_1] 45 (0, 0)) u47_ hb); clear hb hbox hg; have hnb14 := NB374_375.out; have hnc14 := NB375_374.out; have hcz15_0 : w13.cell? ⟨gb374, 0, none⟩ = some (.string a0_0) := (blk_cell BK374.out 0).trans rfl; have hcz15_1 : w13.cell? ⟨gb374, 1, none⟩ = some (.slice A0_1 l0_1.length c0_1) := (blk_cell BK374.out 1).trans rfl; have hfz15_0 := blk_frozen BK374.out 0; have hfz15_1 := blk_frozen BK374.out 1; have hcz16_0 : w13.cell? ⟨gb375, 0, none⟩ = some (.string a1_0) := (blk_cell BK375.out 0).trans rfl; have hcz16_1 : w13.cell? ⟨gb375, 1, none⟩ = some (.slice A1_1 l1_1.length c1_1) := (blk_cell BK375.out 1).trans rfl; have hfz16_0 := blk_frozen BK375.out 0; have hfz16_1 := blk_frozen BK375.out 1) | ((with_reducible refine gate_callee (f := 46) rfl ?_); refine goesL_ (some 14) rfl rfl Tryz.func46 u8_ rfl #[.slice A0_1 l0_1.length c0_1, .slice A1_1 l1_1.length c1_1] rfl u2_ ?_; (with_reducible refine (laws_eqCellS.calls k _ _ l0_1 _ _ l1_1 false _ ?side1 ?side2 ?side3 ?side4 A4.out).mono ?_); (case side1 => repeat (first | exact (Kd.C_below HR0_1.out HB.out) | (with_reducible refine Kd.C_alloc ?_ _) | (with_reducible refine Kd.C_drewN ?_ _) | (with_reducible refine Kd.C_drew ?_))); (case side2 => exact HC0_1.out); (case side3 => repeat (first | exact (Kd.C_below HR1_1.out HB.out) | (with_reducible refine Kd.C_alloc ?_ _) | (with_reducible refine Kd.C_drewN ?_ _) | (with_reducible refine Kd.C_drew ?_))); (case side4 => exact HC1_1.out); rintro e w17 ⟨rfl, hb⟩; refine ⟨_, rfl, ?_⟩; replace BK374 := am_ (blk_below (g := gb374) (o := .cells #[.string a0_0, .slice A0_1 l0_1.length c0_1] 45 (0, 0)) u47_ hb); replace BK375 := am_ (blk_below (g := gb375) (o := .cells #[.string a1_0, .slice A1_1 l1_1.length c1_1] 45 (0, 0)) u140_ hb); replace HB := am_ (below_step u63_ hb); (try clear hb); (try clear hb2); (try clear hk); (try clear hi)))
   go_ret
   exact ⟨u5_, u63_⟩
 ·rw [if_neg c3] at H; have c3b0 : (a0_0.toList == a1_0.toList) = false := beq_eq_false_iff_ne.mpr c3; have c3b1 : (a0_0.toList != a1_0.toList) = true := bne_iff_ne.mpr c3; obtain rfl := Option.some.inj H; go_enter Tryz.func18, Tryz.ntmps18
  go_wp2_with (first | ((with_reducible refine gate_dst (N := 2) rfl ?_); refine box_event ?hg (N := 2) ?hd (cs := #[.string a0_0, .slice A0_1 l0_1.length c0_1]) (t := 45) ?hr ?_; (case hd => rfl); (case hg => rfl); (case hr => first | (go_simp; done) | (go_simp; rfl)); intro gb374 hg w18 hbox hb; have BK374 := am_ (hbox); have GW374 := am_ ((by rw [hg]; exact (below_size u0_) : w.heap.size ≤ gb374)); have GE374 := GW374; replace HB := am_ (below_step u0_ hb); clear hb hbox hg) | ((with_reducible refine gate_dst (N := 3) rfl ?_); refine box_event ?hg (N := 3) ?hd (cs := #[.string a1_0, .slice A1_1 l1_1.length c1_1]) (t := 45) ?hr ?_; (case hd => rfl); (case hg => rfl); (case hr => first | (go_simp; done) | (go_simp; rfl)); intro gb375 hg w19 hbox hb; have BK375 := am_ (hbox); have GW375 := am_ ((by rw [hg]; exact (below_size u61_) : w.heap.size ≤ gb375)); have GE375 := GW375; replace HB := am_ (below_step u61_ hb); have NB374_375 := am_ ((by rw [hg]; exact Nat.ne_of_lt (blk_lt (g := gb374) (o := .cells #[.string a0_0, .slice A0_1 l0_1.length c0_1] 45 (0, 0)) u47_) : gb374 ≠ gb375)); have NB375_374 := am_ ((by rw [hg]; exact Nat.ne_of_gt (blk_lt (g := gb374) (o := .cells #[.string a0_0, .slice A0_1 l0_1.length c0_1] 45 (0, 0)) u47_) : gb375 ≠ gb374)); replace BK374 := am_ (blk_below (g := gb374) (o := .cells #[.string a0_0, .slice A0_1 l0_1.length c0_1] 45 (0, 0)) u47_ hb); clear hb hbox hg; have hnb20 := NB374_375.out; have hnc20 := NB375_374.out; have hcz21_0 : w19.cell? ⟨gb374, 0, none⟩ = some (.string a0_0) := (blk_cell BK374.out 0).trans rfl; have hcz21_1 : w19.cell? ⟨gb374, 1, none⟩ = some (.slice A0_1 l0_1.length c0_1) := (blk_cell BK374.out 1).trans rfl; have hfz21_0 := blk_frozen BK374.out 0; have hfz21_1 := blk_frozen BK374.out 1; have hcz22_0 : w19.cell? ⟨gb375, 0, none⟩ = some (.string a1_0) := (blk_cell BK375.out 0).trans rfl; have hcz22_1 : w19.cell? ⟨gb375, 1, none⟩ = some (.slice A1_1 l1_1.length c1_1) := (blk_cell BK375.out 1).trans rfl; have hfz22_0 := blk_frozen BK375.out 0; have hfz22_1 := blk_frozen BK375.out 1))
  go_ret
  exact ⟨u5_, u63_⟩

/-! ### laws_markText: function 47 -/
def laws_markText.l0 : Nat → Int → ByteArray → Option (ByteArray)
 | 0, _, _ => none
 | k + 1, x0, x3 => if x0 > 0 then ((some (([(wrap64 (48 + (Int.tmod x0 10))) % 256] : List Int) : List Int)).bind fun y377 => (if (strOfNums y377).size + x3.size ≤ 9223372036854775807 then (laws_markText.l0 k (wrap64 (Int.tdiv x0 10)) ((strOfNums y377) ++ x3)) else (none))) else (if 1 + x3.size ≤ 9223372036854775807 then (some ((⟨#[109]⟩ : ByteArray) ++ x3)) else (none))
def laws_markText.f (k : Nat) (a0 : Int) : Option (ByteArray) := if a0 ≤ 0 then (some (⟨#[109, 48]⟩ : ByteArray)) else (laws_markText.l0 k a0 (⟨#[]⟩ : ByteArray))
theorem laws_markText.mono_l : ∀ k, (∀ y0 y1, LeO (laws_markText.l0 k y0 y1) (laws_markText.l0 (k + 1) y0 y1))
 | 0 => fun _ _ r h => by simp [laws_markText.l0] at h
 | k + 1 => by
  have ih0 := laws_markText.mono_l k
  ·intro y0 y1; unfold laws_markText.l0
   repeat' first
   | (with_reducible exact ih0 _ _)
   | (with_reducible exact LeO.refl _)
   | (with_reducible exact LeO.none _)
   | (with_reducible refine LeO.ite ?_ ?_)
   | (with_reducible refine LeO.bind ?_ (fun _ => ?_))
   | exact ih0 _ _
   | exact LeO.none _
   | refine LeO.ite ?_ ?_
   | refine LeO.bind ?_ (fun _ => ?_)
theorem laws_markText.mono : ∀ a0 k, LeO (laws_markText.f k a0) (laws_markText.f (k + 1) a0) := by
 intro a0 k; have ih0 := laws_markText.mono_l k; unfold laws_markText.f
 repeat' first
   | (with_reducible exact ih0 _ _)
   | (with_reducible exact LeO.refl _)
   | (with_reducible exact LeO.none _)
   | (with_reducible refine LeO.ite ?_ ?_)
   | (with_reducible refine LeO.bind ?_ (fun _ => ?_))
   | exact ih0 _ _
   | exact LeO.none _
   | refine LeO.ite ?_ ?_
   | refine LeO.bind ?_ (fun _ => ?_)
set_option maxHeartbeats 8000000 in
set_option maxRecDepth 100000 in
theorem laws_markText.calls (k : Nat) (a0 : Int) (r : ByteArray) (w : World) (h : laws_markText.f k a0 = some r) :
  Calls Tryz.prog 47 #[.int .i64 a0] w fun e w' => e = .returned (.string r) ∧ Below w.heap.size w w' := by
 have HB := am_ (Below.refl w.heap.size w); have H : (if a0 ≤ 0 then (some (⟨#[109, 48]⟩ : ByteArray)) else (laws_markText.l0 k a0 (⟨#[]⟩ : ByteArray))) = some r := h; clear h; by_cases c2 : a0 ≤ 0
 ·rw [if_pos c2] at H; have c2b0 : decide (a0 ≤ 0) = true := decide_eq_true c2; clear c2; obtain rfl := Option.some.inj H; go_enter Tryz.func47, Tryz.ntmps47
  go_wp2; go_ret
  exact ⟨u5_, u0_⟩
 ·rw [if_neg c2] at H; have c2b0 : decide (a0 ≤ 0) = false := decide_eq_false c2; clear c2; have H' := am_ H; clear H; go_enter Tryz.func47, Tryz.ntmps47
  go_wp2; go_loopg [0, 3] k (fun kq v0 v3 w' => ∃ (x0_1 : Int) (x3_1 : ByteArray), v0 = .int .i64 x0_1 ∧ v3 = .string x3_1 ∧ Aside0 (laws_markText.l0 kq x0_1 x3_1 = some r) ∧ Aside0 (kq ≤ k) ∧ Aside0 (Below w.heap.size w w'))
  case atStart => exact ⟨(a0), ((⟨#[]⟩ : ByteArray)), u15_, u15_, H', ⟨Nat.le_refl _⟩, ⟨u0_⟩⟩
  case round =>
   clear H'; try clear c2
   try clear c2b0
   try clear p2
   obtain ⟨x0_1, x3_1, rfl, rfl, HA, HK1, HB⟩ := hrel; cases gk with
   | zero => exact absurd HA.out (by simp [laws_markText.l0])
   | succ k1 =>
    have H := HA.out; clear HA; simp only [laws_markText.l0] at H; by_cases c3 : x0_1 > 0
    ·rw [if_pos c3] at H; have c3b0 : decide (0 < x0_1) = true := decide_eq_true c3; clear c3; obtain ⟨y377, hy377⟩ : ∃ y_ : List Int, y_ = (([(wrap64 (48 + (Int.tmod x0_1 10))) % 256] : List Int)) := ⟨_, rfl⟩; replace H : (if (strOfNums y377).size + x3_1.size ≤ 9223372036854775807 then (laws_markText.l0 k1 (wrap64 (Int.tdiv x0_1 10)) ((strOfNums y377) ++ x3_1)) else (none)) = some r := by first | (rw [hy377]; with_reducible exact H) | (have H2_ := (Option.bind_some _ _).symm.trans H; rw [hy377]; with_reducible exact H2_) | (have H2_ := (Option.bind_some _ _).symm.trans H; with_reducible exact H2_) | with_reducible exact H | (rw [hy377]; exact H) | exact H
     have Ny377 := am_ hy377; clear hy377; by_cases c4 : (strOfNums y377).size + x3_1.size ≤ 9223372036854775807
     ·rw [if_pos c4] at H; have c4b0 := eq_true c4; have c4b1 : decide ((strOfNums y377).size + x3_1.size ≤ 9223372036854775807) = true := decide_eq_true c4; try have c4b2 : (9223372036854775807 < (strOfNums y377).size + x3_1.size) = False := eq_false (Nat.not_lt.2 c4)
      have H' := am_ H; clear H; go_wp2_with (first | ((with_reducible refine gate_dst (N := 12) rfl ?_); refine Kd.R_lit (Kd.int .u8) _ 5 ?hg (N := 12) ?hd (xs := ([(wrap64 (48 + (Int.tmod x0_1 10))) % 256] : List Int)) (inner := [.int .u8 ((wrap64 (48 + (Int.tmod x0_1 10))) % 256)]) (ok := fun _ => True) (okp := fun _ => True) ?hr ?hp (fun _ hk => hk) trivial (Below.refl _ _) (Nat.le_refl _) u91_ ?_; (case hd => rfl); (case hg => rfl); (case hr => first | (go_simp; done) | (go_simp; rfl)); (case hp => exact (Reps.one (show Kd.M (Kd.int .u8) _ _ _ ((wrap64 (48 + (Int.tmod x0_1 10))) % 256) [.int .u8 ((wrap64 (48 + (Int.tmod x0_1 10))) % 256)] from rfl) (Reps.none _ _))); intro v378 w5 ho6 hb hg_ hnew_; clear hg_ hnew_; (first | rw [← Ny377.out] at ho6 | (simp only [Int.reduceToNat] at ho6; rw [← Ny377.out] at ho6)); have HO379 := am_ (Kd.R_lower ho6 (below_size u0_)); replace HB := am_ (below_step u0_ hb); clear hb ho6; have hcv7 := own_string (P := Tryz.prog) Tryz.underlying22 Tryz.underlying5 Tryz.underlying9 (Kd.own_of_R HO379.out)))
      go_roundg k1
      case measure => have := HK1.out; omega
      case rel => exact ⟨(wrap64 (Int.tdiv x0_1 10)), ((strOfNums y377) ++ x3_1), u15_, u15_, H', ⟨u70_⟩, ⟨u0_⟩⟩
     ·exact u167_
    ·rw [if_neg c3] at H; have c3b0 : decide (0 < x0_1) = false := decide_eq_false c3; clear c3; by_cases c8 : 1 + x3_1.size ≤ 9223372036854775807
     ·rw [if_pos c8] at H; have c8b0 := eq_true c8; have c8b1 : decide (1 + x3_1.size ≤ 9223372036854775807) = true := decide_eq_true c8; try have c8b2 : (9223372036854775807 < 1 + x3_1.size) = False := eq_false (Nat.not_lt.2 c8)
      obtain rfl := Option.some.inj H; go_wp2; go_ret
      exact ⟨u5_, u0_⟩
     ·rw [if_neg c8] at H; exact absurd H u91_

/-! ### laws_markFieldS: function 19 -/
def laws_markFieldS.l0 : Nat → List (S79) → Int → Int → Option (Int × (List (S79)))
 | 0, _, _, _ => none
 | k + 1, x0, x1, x5 => if x5 < (x0.length : Int) then ((laws_markText.f k x1).bind fun t380 => (if 0 ≤ x5 then ((some (x0.set (x5 : Int).toNat (⟨t380, (rd_T79 x0 x5).f1, (rd_T79 x0 x5).f2⟩ : S79) : List (S79))).bind fun y381 => ((some (y381.set (x5 : Int).toNat (⟨(rd_T79 y381 x5).f0, wrap64 (x1 + 1), (rd_T79 y381 x5).f2⟩ : S79) : List (S79))).bind fun y382 => (laws_markFieldS.l0 k (y382.set (x5 : Int).toNat (⟨(rd_T79 y382 x5).f0, (rd_T79 y382 x5).f1, wrap64 ((wrap64 (x1 + 1)) + 1)⟩ : S79)) (wrap64 ((wrap64 ((wrap64 (x1 + 1)) + 1)) + 1)) (wrap64 (x5 + 1))))) else (none))) else (some (x1, x0))
def laws_markFieldS.f (k : Nat) (l0 : List (S79)) (a1 : Int) : Option (Int × (List (S79))) := laws_markFieldS.l0 k l0 a1 0
theorem laws_markFieldS.mono_l : ∀ k, (∀ y0 y1 y2, LeO (laws_markFieldS.l0 k y0 y1 y2) (laws_markFieldS.l0 (k + 1) y0 y1 y2))
 | 0 => fun _ _ _ r h => by simp [laws_markFieldS.l0] at h
 | k + 1 => by
  have ih0 := laws_markFieldS.mono_l k
  ·intro y0 y1 y2; unfold laws_markFieldS.l0
   repeat' first
   | (with_reducible exact ih0 _ _ _)
   | (with_reducible exact laws_markText.mono _ _)
   | (with_reducible exact LeO.refl _)
   | (with_reducible exact LeO.none _)
   | (with_reducible refine LeO.ite ?_ ?_)
   | (with_reducible refine LeO.bind ?_ (fun _ => ?_))
   | exact ih0 _ _ _
   | exact laws_markText.mono _ _
   | exact LeO.none _
   | refine LeO.ite ?_ ?_
   | refine LeO.bind ?_ (fun _ => ?_)
theorem laws_markFieldS.mono : ∀ a0 a1 k, LeO (laws_markFieldS.f k a0 a1) (laws_markFieldS.f (k + 1) a0 a1) := by
 intro a0 a1 k; have ih0 := laws_markFieldS.mono_l k; unfold laws_markFieldS.f
 repeat' first
   | (with_reducible exact ih0 _ _ _)
   | (with_reducible exact laws_markText.mono _ _)
   | (with_reducible exact LeO.refl _)
   | (with_reducible exact LeO.none _)
   | (with_reducible refine LeO.ite ?_ ?_)
   | (with_reducible refine LeO.bind ?_ (fun _ => ?_))
   | exact ih0 _ _ _
   | exact laws_markText.mono _ _
   | exact LeO.none _
   | refine LeO.ite ?_ ?_
   | refine LeO.bind ?_ (fun _ => ?_)
set_option maxHeartbeats 8000000 in
set_option maxRecDepth 100000 in
theorem laws_markFieldS.calls (k : Nat) (P0_ : Nat → Prop) (u9000_ : Value) (l0 : List (S79)) (a1 : Int) (r1 : Int) (r2 : List (S79)) (w0 w : World) (hB : Below w0.heap.size w0 w) (ho0 : Kd.R k79 79 w w0.heap.size P0_ u9000_ l0) (h : laws_markFieldS.f k l0 a1 = some (r1, r2)) :
  Calls Tryz.prog 19 #[u9000_, .int .i64 a1] w fun e w' => e = .returned (.int .i64 r1) ∧ Kd.R k79 79 w' w0.heap.size (fun k_ => (P0_ k_ ∨ w.heap.size ≤ k_)) u9000_ r2 ∧ Below w0.heap.size w0 w' ∧ Kept w w' (fun k_ => P0_ k_) := by
 have HO0 := am_ (show Kd.R k79 79 w w0.heap.size (fun k_ => (P0_ k_ ∨ w.heap.size ≤ k_)) u9000_ l0 from Kd.R_mono ho0 (fun k_ hk => (.inl hk))); have HK := am_ (Kept.refl w (fun k_ => P0_ k_)); have HW0 := am_ hB.size; have HB := am_ hB; clear hB; have H : (laws_markFieldS.l0 k l0 a1 0) = some (r1, r2) := h; clear h; have H' := am_ H; clear H; go_enter Tryz.func19, Tryz.ntmps19
 go_wp2; go_loopg [1, 5] k (fun kq v1 v5 w' => ∃ (x0_1 : List (S79)) (x1_1 : Int) (x5_1 : Int), v1 = .int .i64 x1_1 ∧ v5 = .int .i64 x5_1 ∧ Aside0 (laws_markFieldS.l0 kq x0_1 x1_1 x5_1 = some (r1, r2)) ∧ Aside0 (kq ≤ k) ∧ Aside0 (Kd.R k79 79 w' w0.heap.size (fun k_ => (P0_ k_ ∨ w.heap.size ≤ k_)) u9000_ x0_1) ∧ Aside0 (Kept w w' (fun k_ => P0_ k_)) ∧ Aside0 (Below w0.heap.size w0 w'))
 case atStart => exact ⟨(l0), (a1), (0), u15_, u15_, H', ⟨Nat.le_refl _⟩, ⟨u103_⟩, ⟨u10_⟩, ⟨u0_⟩⟩
 case round =>
  clear H'; try clear c1
  try clear p2
  obtain ⟨x0_1, x1_1, x5_1, rfl, rfl, HA, HK1, HO_0, HK, HB⟩ := hrel; cases gk with
  | zero => exact absurd HA.out (by simp [laws_markFieldS.l0])
  | succ k1 =>
   have H := HA.out; clear HA; simp only [laws_markFieldS.l0] at H; by_cases c3 : x5_1 < (x0_1.length : Int)
   ·rw [if_pos c3] at H; have c3b0 : decide (x5_1 < (x0_1.length : Int)) = true := decide_eq_true c3; clear c3; replace H := Option.bind_eq_some_iff.mp H; obtain ⟨t380, A40, H⟩ := H; replace H : (if 0 ≤ x5_1 then ((some (x0_1.set (x5_1 : Int).toNat (⟨t380, (rd_T79 x0_1 x5_1).f1, (rd_T79 x0_1 x5_1).f2⟩ : S79) : List (S79))).bind fun y381 => ((some (y381.set (x5_1 : Int).toNat (⟨(rd_T79 y381 x5_1).f0, wrap64 (x1_1 + 1), (rd_T79 y381 x5_1).f2⟩ : S79) : List (S79))).bind fun y382 => (laws_markFieldS.l0 k1 (y382.set (x5_1 : Int).toNat (⟨(rd_T79 y382 x5_1).f0, (rd_T79 y382 x5_1).f1, wrap64 ((wrap64 (x1_1 + 1)) + 1)⟩ : S79)) (wrap64 ((wrap64 ((wrap64 (x1_1 + 1)) + 1)) + 1)) (wrap64 (x5_1 + 1))))) else (none)) = some (r1, r2) := H; have A4 := am_ A40; clear A40; by_cases c5 : 0 ≤ x5_1
    ·rw [if_pos c5] at H; have c5b0 : decide (0 ≤ x5_1) = true := decide_eq_true c5; clear c5; obtain ⟨y381, hy381⟩ : ∃ y_ : List (S79), y_ = (x0_1.set (x5_1 : Int).toNat (⟨t380, (rd_T79 x0_1 x5_1).f1, (rd_T79 x0_1 x5_1).f2⟩ : S79)) := ⟨_, rfl⟩; replace H : ((some (y381.set (x5_1 : Int).toNat (⟨(rd_T79 y381 x5_1).f0, wrap64 (x1_1 + 1), (rd_T79 y381 x5_1).f2⟩ : S79) : List (S79))).bind fun y382 => (laws_markFieldS.l0 k1 (y382.set (x5_1 : Int).toNat (⟨(rd_T79 y382 x5_1).f0, (rd_T79 y382 x5_1).f1, wrap64 ((wrap64 (x1_1 + 1)) + 1)⟩ : S79)) (wrap64 ((wrap64 ((wrap64 (x1_1 + 1)) + 1)) + 1)) (wrap64 (x5_1 + 1)))) = some (r1, r2) := by first | (rw [hy381]; with_reducible exact H) | (have H2_ := (Option.bind_some _ _).symm.trans H; rw [hy381]; with_reducible exact H2_) | (have H2_ := (Option.bind_some _ _).symm.trans H; with_reducible exact H2_) | with_reducible exact H | (rw [hy381]; exact H) | exact H
     have Ny381 := am_ hy381; clear hy381; obtain ⟨y382, hy382⟩ : ∃ y_ : List (S79), y_ = (y381.set (x5_1 : Int).toNat (⟨(rd_T79 y381 x5_1).f0, wrap64 (x1_1 + 1), (rd_T79 y381 x5_1).f2⟩ : S79)) := ⟨_, rfl⟩; replace H : (laws_markFieldS.l0 k1 (y382.set (x5_1 : Int).toNat (⟨(rd_T79 y382 x5_1).f0, (rd_T79 y382 x5_1).f1, wrap64 ((wrap64 (x1_1 + 1)) + 1)⟩ : S79)) (wrap64 ((wrap64 ((wrap64 (x1_1 + 1)) + 1)) + 1)) (wrap64 (x5_1 + 1))) = some (r1, r2) := by first | (rw [hy382]; with_reducible exact H) | (have H2_ := (Option.bind_some _ _).symm.trans H; rw [hy382]; with_reducible exact H2_) | (have H2_ := (Option.bind_some _ _).symm.trans H; with_reducible exact H2_) | with_reducible exact H | (rw [hy382]; exact H) | exact H
     have Ny382 := am_ hy382; clear hy382; obtain ⟨y383, hy383⟩ : ∃ y_ : List (S79), y_ = (y382.set (x5_1 : Int).toNat (⟨(rd_T79 y382 x5_1).f0, (rd_T79 y382 x5_1).f1, wrap64 ((wrap64 (x1_1 + 1)) + 1)⟩ : S79)) := ⟨_, rfl⟩; replace H : (laws_markFieldS.l0 k1 y383 (wrap64 ((wrap64 ((wrap64 (x1_1 + 1)) + 1)) + 1)) (wrap64 (x5_1 + 1))) = some (r1, r2) := by first | (rw [hy383]; with_reducible exact H) | (have H2_ := (Option.bind_some _ _).symm.trans H; rw [hy383]; with_reducible exact H2_) | (have H2_ := (Option.bind_some _ _).symm.trans H; with_reducible exact H2_) | with_reducible exact H | (rw [hy383]; exact H) | exact H
     have Ny383 := am_ hy383; clear hy383; have H' := am_ H; clear H; obtain ⟨Ao9, co9, eo9⟩ := Kd.R_slice HO_0.out; subst eo9; go_wp2_with (first | ((with_reducible refine gate_callee (f := 47) rfl ?_); refine goesL_ (some 15) rfl rfl Tryz.func47 u8_ rfl #[.int .i64 x1_1] rfl u2_ ?_; (with_reducible refine (laws_markText.calls k1 x1_1 t380 _ A4.out).mono ?_); rintro e w10 ⟨rfl, hb⟩; refine ⟨_, rfl, ?_⟩; replace HO_0 := am_ (Kd.R_below u11_ hb); replace HK := am_ (Kept.below (S := (fun k_ => P0_ k_)) u10_ hb); replace HB := am_ (below_step u0_ hb); (try clear hb); (try clear hb2); (try clear hk); (try clear hi); have p6 : 0 ≤ (x5_1 : Int) := of_decide_eq_true u4_; have q6 : (x5_1 : Int) < ((x0_1.length : Int) : Int) := of_decide_eq_true u4_; obtain ⟨go6, co6, eo6, gb6, gl6, cl6, HG6⟩ := Kd.R_form HO_0.out u110_; (first | cases eo6 | (injection eo6 with ea_ en_ ec_; (first | subst ea_ | (injection ea_ with ea_; subst ea_)); subst ec_; clear en_)); have GB6 := am_ gb6; have GG6 := am_ HG6; clear gb6 gl6 HG6; have HMgo6 := am_ (show (P0_ go6 ∨ w.heap.size ≤ go6) from (HO_0.out.1 _ rfl)); obtain ⟨ce6, hcl6, hM6, hcc6, hfr6⟩ := Kd.R_elem HO_0.out z79 (x5_1 : Int) p6 q6; obtain rfl := k79_openM hM6; have hx6_0 : w10.cell? ⟨go6, (x5_1 : Int).toNat * 3, none⟩ = some (.string ((rd_T79 x0_1 x5_1).f0)) := hcc6 0 _ rfl; have hx6_1 : w10.cell? ⟨go6, (x5_1 : Int).toNat * 3 + 1, none⟩ = some (.int .i64 ((rd_T79 x0_1 x5_1).f1)) := hcc6 1 _ rfl; have hx6_2 : w10.cell? ⟨go6, (x5_1 : Int).toNat * 3 + 2, none⟩ = some (.int .i64 ((rd_T79 x0_1 x5_1).f2)) := hcc6 2 _ rfl; have hf6_0 : w10.frozen? ⟨go6, (x5_1 : Int).toNat * 3, none⟩ = false := hfr6 0; have hf6_1 : w10.frozen? ⟨go6, (x5_1 : Int).toNat * 3 + 1, none⟩ = false := hfr6 1; have hf6_2 : w10.frozen? ⟨go6, (x5_1 : Int).toNat * 3 + 2, none⟩ = false := hfr6 2; clear hcl6 hcc6 hfr6 hM6; replace p6 := eq_true p6; replace q6 := eq_true q6; have HX11 := am_ (show Kd.R k79 79 w10 w0.heap.size (fun k_ => (P0_ k_ ∨ w.heap.size ≤ k_)) (.slice (some ⟨go6, 0, none⟩) x0_1.length co9) x0_1 from u11_); obtain ⟨ce11, hcl11, hM11, hcc11, hfr11⟩ := Kd.R_elem HX11.out z79 (x5_1 : Int) (of_decide_eq_true u4_) (by have h_ : (x5_1 : Int) < ((x0_1.length : Int) : Int) := of_decide_eq_true u4_; first | exact h_ | (have e_ := (Kd.R_reads' HO_0.out).1; omega) | simpa using h_); obtain rfl := k79_openM hM11; have HP11 := Kd.R_seg HX11.out (x5_1 : Int) (of_decide_eq_true u4_) (by have h_ : (x5_1 : Int) < ((x0_1.length : Int) : Int) := of_decide_eq_true u4_; first | exact h_ | (have e_ := (Kd.R_reads' HO_0.out).1; omega) | simpa using h_) (seg := [.string t380]) (j := 0) hcl11 hcc11 (show 1 ≤ 3 from by decide) (x' := (⟨t380, (rd_T79 x0_1 x5_1).f1, (rd_T79 x0_1 x5_1).f2⟩ : S79)) (k79_mkM _ _ _ (⟨t380, (rd_T79 x0_1 x5_1).f1, (rd_T79 x0_1 x5_1).f2⟩ : S79) ) (fun _ hk => hk); have hx11_0 := hcc11 0 _ rfl; (try simp only [show (k79).sz = 3 from rfl, Nat.mul_one, Nat.add_zero] at hx11_0); have hf11_0 := hfr11 0; (try simp only [show (k79).sz = 3 from rfl, Nat.mul_one, Nat.add_zero] at hf11_0); clear hcl11 hcc11 hfr11 hM11) | ((with_reducible refine gate_store (t := 9) (p := 17) rfl ?_); refine store_event (t := 9) (p := 17) (v := ?vo_w12) (w1 := (w10.setCell ⟨go6, (x5_1 : Int).toNat * 3, none⟩ (.string t380))) ?hg ?ho ?hn ?hr ?_; (case ho => rfl); (case hg => rfl); (case hn => rfl); (case hr => first | (go_simp; done) | (go_simp; rfl)); intro w12 hw; have hg : w10.grownBy w12 (some go6) := (by rw [hw]; exact HP11.2); have hp_ : Kd.R k79 79 w12 w0.heap.size (fun k_ => (P0_ k_ ∨ w.heap.size ≤ k_)) (.slice (some ⟨go6, 0, none⟩) x0_1.length co9) y381 := (by rw [hw, Ny381.out]; exact HP11.1); clear HP11; replace HB := am_ ((by rw [hw]; exact below_set (HB.out) GB6.out : Below w0.heap.size w0 w12)); replace HK := am_ (Kept.of_grown (S := (fun k_ => P0_ k_)) hg u10_ (fun k_ e_ => (HO_0.out.1 k_ e_))); replace HO_0 := am_ (hp_); clear hg hw hp_; have p7 : 0 ≤ (x5_1 : Int) := of_decide_eq_true u4_; have q7 : (x5_1 : Int) < ((x0_1.length : Int) : Int) := of_decide_eq_true u4_; obtain ⟨ce7, hcl7, hM7, hcc7, hfr7⟩ := Kd.R_elem HO_0.out z79 (x5_1 : Int) p7 q7; obtain rfl := k79_openM hM7; have hx7_0 : w12.cell? ⟨go6, (x5_1 : Int).toNat * 3, none⟩ = some (.string ((rd_T79 y381 x5_1).f0)) := hcc7 0 _ rfl; have hx7_1 : w12.cell? ⟨go6, (x5_1 : Int).toNat * 3 + 1, none⟩ = some (.int .i64 ((rd_T79 y381 x5_1).f1)) := hcc7 1 _ rfl; have hx7_2 : w12.cell? ⟨go6, (x5_1 : Int).toNat * 3 + 2, none⟩ = some (.int .i64 ((rd_T79 y381 x5_1).f2)) := hcc7 2 _ rfl; have hf7_0 : w12.frozen? ⟨go6, (x5_1 : Int).toNat * 3, none⟩ = false := hfr7 0; have hf7_1 : w12.frozen? ⟨go6, (x5_1 : Int).toNat * 3 + 1, none⟩ = false := hfr7 1; have hf7_2 : w12.frozen? ⟨go6, (x5_1 : Int).toNat * 3 + 2, none⟩ = false := hfr7 2; clear hcl7 hcc7 hfr7 hM7; replace p7 := eq_true p7; replace q7 := eq_true q7; have HX13 := am_ (show Kd.R k79 79 w12 w0.heap.size (fun k_ => (P0_ k_ ∨ w.heap.size ≤ k_)) (.slice (some ⟨go6, 0, none⟩) x0_1.length co9) y381 from u11_); obtain ⟨ce13, hcl13, hM13, hcc13, hfr13⟩ := Kd.R_elem HX13.out z79 (x5_1 : Int) (of_decide_eq_true u4_) (by have h_ : (x5_1 : Int) < ((x0_1.length : Int) : Int) := of_decide_eq_true u4_; first | exact h_ | (have e_ := (Kd.R_reads' HO_0.out).1; omega) | simpa using h_); obtain rfl := k79_openM hM13; have HP13 := Kd.R_seg HX13.out (x5_1 : Int) (of_decide_eq_true u4_) (by have h_ : (x5_1 : Int) < ((x0_1.length : Int) : Int) := of_decide_eq_true u4_; first | exact h_ | (have e_ := (Kd.R_reads' HO_0.out).1; omega) | simpa using h_) (seg := [.int .i64 (wrap64 (x1_1 + 1))]) (j := 1) hcl13 hcc13 (show 2 ≤ 3 from by decide) (x' := (⟨(rd_T79 y381 x5_1).f0, wrap64 (x1_1 + 1), (rd_T79 y381 x5_1).f2⟩ : S79)) (k79_mkM _ _ _ (⟨(rd_T79 y381 x5_1).f0, wrap64 (x1_1 + 1), (rd_T79 y381 x5_1).f2⟩ : S79) ) (fun _ hk => hk); have hx13_1 := hcc13 1 _ rfl; (try simp only [show (k79).sz = 3 from rfl, Nat.mul_one, Nat.add_zero] at hx13_1); have hf13_1 := hfr13 1; (try simp only [show (k79).sz = 3 from rfl, Nat.mul_one, Nat.add_zero] at hf13_1); clear hcl13 hcc13 hfr13 hM13) | ((with_reducible refine gate_store (t := 3) (p := 24) rfl ?_); refine store_event (t := 3) (p := 24) (v := ?vo_w14) (w1 := (w12.setCell ⟨go6, (x5_1 : Int).toNat * 3 + 1, none⟩ (.int .i64 (wrap64 (x1_1 + 1))))) ?hg ?ho ?hn ?hr ?_; (case ho => rfl); (case hg => rfl); (case hn => rfl); (case hr => first | (go_simp; done) | (go_simp; rfl)); intro w14 hw; have hg : w12.grownBy w14 (some go6) := (by rw [hw]; exact HP13.2); have hp_ : Kd.R k79 79 w14 w0.heap.size (fun k_ => (P0_ k_ ∨ w.heap.size ≤ k_)) (.slice (some ⟨go6, 0, none⟩) x0_1.length co9) y382 := (by rw [hw, Ny382.out]; exact HP13.1); clear HP13; replace HB := am_ ((by rw [hw]; exact below_set (HB.out) GB6.out : Below w0.heap.size w0 w14)); replace HK := am_ (Kept.of_grown (S := (fun k_ => P0_ k_)) hg u10_ (fun k_ e_ => (HO_0.out.1 k_ e_))); replace HO_0 := am_ (hp_); clear hg hw hp_; have p8 : 0 ≤ (x5_1 : Int) := of_decide_eq_true u4_; have q8 : (x5_1 : Int) < ((x0_1.length : Int) : Int) := of_decide_eq_true u4_; obtain ⟨ce8, hcl8, hM8, hcc8, hfr8⟩ := Kd.R_elem HO_0.out z79 (x5_1 : Int) p8 q8; obtain rfl := k79_openM hM8; have hx8_0 : w14.cell? ⟨go6, (x5_1 : Int).toNat * 3, none⟩ = some (.string ((rd_T79 y382 x5_1).f0)) := hcc8 0 _ rfl; have hx8_1 : w14.cell? ⟨go6, (x5_1 : Int).toNat * 3 + 1, none⟩ = some (.int .i64 ((rd_T79 y382 x5_1).f1)) := hcc8 1 _ rfl; have hx8_2 : w14.cell? ⟨go6, (x5_1 : Int).toNat * 3 + 2, none⟩ = some (.int .i64 ((rd_T79 y382 x5_1).f2)) := hcc8 2 _ rfl; have hf8_0 : w14.frozen? ⟨go6, (x5_1 : Int).toNat * 3, none⟩ = false := hfr8 0; have hf8_1 : w14.frozen? ⟨go6, (x5_1 : Int).toNat * 3 + 1, none⟩ = false := hfr8 1; have hf8_2 : w14.frozen? ⟨go6, (x5_1 : Int).toNat * 3 + 2, none⟩ = false := hfr8 2; clear hcl8 hcc8 hfr8 hM8; replace p8 := eq_true p8; replace q8 := eq_true q8; have HX15 := am_ (show Kd.R k79 79 w14 w0.heap.size (fun k_ => (P0_ k_ ∨ w.heap.size ≤ k_)) (.slice (some ⟨go6, 0, none⟩) x0_1.length co9) y382 from u11_); obtain ⟨ce15, hcl15, hM15, hcc15, hfr15⟩ := Kd.R_elem HX15.out z79 (x5_1 : Int) (of_decide_eq_true u4_) (by have h_ : (x5_1 : Int) < ((x0_1.length : Int) : Int) := of_decide_eq_true u4_; first | exact h_ | (have e_ := (Kd.R_reads' HO_0.out).1; omega) | simpa using h_); obtain rfl := k79_openM hM15; have HP15 := Kd.R_seg HX15.out (x5_1 : Int) (of_decide_eq_true u4_) (by have h_ : (x5_1 : Int) < ((x0_1.length : Int) : Int) := of_decide_eq_true u4_; first | exact h_ | (have e_ := (Kd.R_reads' HO_0.out).1; omega) | simpa using h_) (seg := [.int .i64 (wrap64 ((wrap64 (x1_1 + 1)) + 1))]) (j := 2) hcl15 hcc15 (show 3 ≤ 3 from by decide) (x' := (⟨(rd_T79 y382 x5_1).f0, (rd_T79 y382 x5_1).f1, wrap64 ((wrap64 (x1_1 + 1)) + 1)⟩ : S79)) (k79_mkM _ _ _ (⟨(rd_T79 y382 x5_1).f0, (rd_T79 y382 x5_1).f1, wrap64 ((wrap64 (x1_1 + 1)) + 1)⟩ : S79) ) (fun _ hk => hk); have hx15_2 := hcc15 2 _ rfl; (try simp only [show (k79).sz = 3 from rfl, Nat.mul_one, Nat.add_zero] at hx15_2); have hf15_2 := hfr15 2; (try simp only [show (k79).sz = 3 from rfl, Nat.mul_one, Nat.add_zero] at hf15_2); clear hcl15 hcc15 hfr15 hM15) | ((with_reducible refine gate_store (t := 3) (p := 31) rfl ?_); refine store_event (t := 3) (p := 31) (v := ?vo_w16) (w1 := (w14.setCell ⟨go6, (x5_1 : Int).toNat * 3 + 2, none⟩ (.int .i64 (wrap64 ((wrap64 (x1_1 + 1)) + 1))))) ?hg ?ho ?hn ?hr ?_; (case ho => rfl); (case hg => rfl); (case hn => rfl); (case hr => first | (go_simp; done) | (go_simp; rfl)); intro w16 hw; have hg : w14.grownBy w16 (some go6) := (by rw [hw]; exact HP15.2); have hp_ : Kd.R k79 79 w16 w0.heap.size (fun k_ => (P0_ k_ ∨ w.heap.size ≤ k_)) (.slice (some ⟨go6, 0, none⟩) x0_1.length co9) y383 := (by rw [hw, Ny383.out]; exact HP15.1); clear HP15; replace HB := am_ ((by rw [hw]; exact below_set (HB.out) GB6.out : Below w0.heap.size w0 w16)); replace HK := am_ (Kept.of_grown (S := (fun k_ => P0_ k_)) hg u10_ (fun k_ e_ => (HO_0.out.1 k_ e_))); replace HO_0 := am_ (hp_); clear hg hw hp_))
     go_roundg k1
     case measure => have := HK1.out; omega
     case rel => exact ⟨(y383), (wrap64 ((wrap64 ((wrap64 (x1_1 + 1)) + 1)) + 1)), (wrap64 (x5_1 + 1)), u15_, u15_, H', ⟨u70_⟩, ⟨u11_⟩, ⟨u10_⟩, ⟨u0_⟩⟩
    ·exact u153_
   ·rw [if_neg c3] at H; have c3b0 : decide (x5_1 < (x0_1.length : Int)) = false := decide_eq_false c3; clear c3; simp only [Option.some.injEq, Prod.mk.injEq] at H; obtain ⟨rfl, rfl⟩ := H; obtain ⟨Ao17, co17, eo17⟩ := Kd.R_slice HO_0.out; subst eo17; go_wp2; go_ret
    exact ⟨u5_, u11_, u0_, u10_⟩

/-! ### laws_markCellS: function 48 -/
def laws_markCellS.l0 : Nat → List (S96) → Int → Int → Option (Int × (List (S96)))
 | 0, _, _, _ => none
 | k + 1, x0, x1, x5 => if x5 < (x0.length : Int) then ((laws_markText.f k x1).bind fun t384 => (if 0 ≤ x5 then ((some (x0.set (x5 : Int).toNat (⟨t384, (rd_T96 x0 x5).f1⟩ : S96) : List (S96))).bind fun y385 => ((laws_markText.f k (wrap64 (x1 + 1))).bind fun t386 => (laws_markCellS.l0 k (y385.set (x5 : Int).toNat (⟨(rd_T96 y385 x5).f0, t386⟩ : S96)) (wrap64 ((wrap64 (x1 + 1)) + 1)) (wrap64 (x5 + 1))))) else (none))) else (some (x1, x0))
def laws_markCellS.f (k : Nat) (l0 : List (S96)) (a1 : Int) : Option (Int × (List (S96))) := laws_markCellS.l0 k l0 a1 0
theorem laws_markCellS.mono_l : ∀ k, (∀ y0 y1 y2, LeO (laws_markCellS.l0 k y0 y1 y2) (laws_markCellS.l0 (k + 1) y0 y1 y2))
 | 0 => fun _ _ _ r h => by simp [laws_markCellS.l0] at h
 | k + 1 => by
  have ih0 := laws_markCellS.mono_l k
  ·intro y0 y1 y2; unfold laws_markCellS.l0
   repeat' first
   | (with_reducible exact ih0 _ _ _)
   | (with_reducible exact laws_markText.mono _ _)
   | (with_reducible exact LeO.refl _)
   | (with_reducible exact LeO.none _)
   | (with_reducible refine LeO.ite ?_ ?_)
   | (with_reducible refine LeO.bind ?_ (fun _ => ?_))
   | exact ih0 _ _ _
   | exact laws_markText.mono _ _
   | exact LeO.none _
   | refine LeO.ite ?_ ?_
   | refine LeO.bind ?_ (fun _ => ?_)
theorem laws_markCellS.mono : ∀ a0 a1 k, LeO (laws_markCellS.f k a0 a1) (laws_markCellS.f (k + 1) a0 a1) := by
 intro a0 a1 k; have ih0 := laws_markCellS.mono_l k; unfold laws_markCellS.f
 repeat' first
   | (with_reducible exact ih0 _ _ _)
   | (with_reducible exact laws_markText.mono _ _)
   | (with_reducible exact LeO.refl _)
   | (with_reducible exact LeO.none _)
   | (with_reducible refine LeO.ite ?_ ?_)
   | (with_reducible refine LeO.bind ?_ (fun _ => ?_))
   | exact ih0 _ _ _
   | exact laws_markText.mono _ _
   | exact LeO.none _
   | refine LeO.ite ?_ ?_
   | refine LeO.bind ?_ (fun _ => ?_)
set_option maxHeartbeats 8000000 in
set_option maxRecDepth 100000 in
theorem laws_markCellS.calls (k : Nat) (P0_ : Nat → Prop) (u9000_ : Value) (l0 : List (S96)) (a1 : Int) (r1 : Int) (r2 : List (S96)) (w0 w : World) (hB : Below w0.heap.size w0 w) (ho0 : Kd.R k96 96 w w0.heap.size P0_ u9000_ l0) (h : laws_markCellS.f k l0 a1 = some (r1, r2)) :
  Calls Tryz.prog 48 #[u9000_, .int .i64 a1] w fun e w' => e = .returned (.int .i64 r1) ∧ Kd.R k96 96 w' w0.heap.size (fun k_ => (P0_ k_ ∨ w.heap.size ≤ k_)) u9000_ r2 ∧ Below w0.heap.size w0 w' ∧ Kept w w' (fun k_ => P0_ k_) := by
 have HO0 := am_ (show Kd.R k96 96 w w0.heap.size (fun k_ => (P0_ k_ ∨ w.heap.size ≤ k_)) u9000_ l0 from Kd.R_mono ho0 (fun k_ hk => (.inl hk))); have HK := am_ (Kept.refl w (fun k_ => P0_ k_)); have HW0 := am_ hB.size; have HB := am_ hB; clear hB; have H : (laws_markCellS.l0 k l0 a1 0) = some (r1, r2) := h; clear h; have H' := am_ H; clear H; go_enter Tryz.func48, Tryz.ntmps48
 go_wp2; go_loopg [1, 5] k (fun kq v1 v5 w' => ∃ (x0_1 : List (S96)) (x1_1 : Int) (x5_1 : Int), v1 = .int .i64 x1_1 ∧ v5 = .int .i64 x5_1 ∧ Aside0 (laws_markCellS.l0 kq x0_1 x1_1 x5_1 = some (r1, r2)) ∧ Aside0 (kq ≤ k) ∧ Aside0 (Kd.R k96 96 w' w0.heap.size (fun k_ => (P0_ k_ ∨ w.heap.size ≤ k_)) u9000_ x0_1) ∧ Aside0 (Kept w w' (fun k_ => P0_ k_)) ∧ Aside0 (Below w0.heap.size w0 w'))
 case atStart => exact ⟨(l0), (a1), (0), u15_, u15_, H', ⟨Nat.le_refl _⟩, ⟨u103_⟩, ⟨u10_⟩, ⟨u0_⟩⟩
 case round =>
  clear H'; try clear p2
  obtain ⟨x0_1, x1_1, x5_1, rfl, rfl, HA, HK1, HO_0, HK, HB⟩ := hrel; cases gk with
  | zero => exact absurd HA.out (by simp [laws_markCellS.l0])
  | succ k1 =>
   have H := HA.out; clear HA; simp only [laws_markCellS.l0] at H; by_cases c3 : x5_1 < (x0_1.length : Int)
   ·rw [if_pos c3] at H; have c3b0 : decide (x5_1 < (x0_1.length : Int)) = true := decide_eq_true c3; clear c3; replace H := Option.bind_eq_some_iff.mp H; obtain ⟨t384, A40, H⟩ := H; replace H : (if 0 ≤ x5_1 then ((some (x0_1.set (x5_1 : Int).toNat (⟨t384, (rd_T96 x0_1 x5_1).f1⟩ : S96) : List (S96))).bind fun y385 => ((laws_markText.f k1 (wrap64 (x1_1 + 1))).bind fun t386 => (laws_markCellS.l0 k1 (y385.set (x5_1 : Int).toNat (⟨(rd_T96 y385 x5_1).f0, t386⟩ : S96)) (wrap64 ((wrap64 (x1_1 + 1)) + 1)) (wrap64 (x5_1 + 1))))) else (none)) = some (r1, r2) := H; have A4 := am_ A40; clear A40; by_cases c5 : 0 ≤ x5_1
    ·rw [if_pos c5] at H; have c5b0 : decide (0 ≤ x5_1) = true := decide_eq_true c5; clear c5; obtain ⟨y385, hy385⟩ : ∃ y_ : List (S96), y_ = (x0_1.set (x5_1 : Int).toNat (⟨t384, (rd_T96 x0_1 x5_1).f1⟩ : S96)) := ⟨_, rfl⟩; replace H : ((laws_markText.f k1 (wrap64 (x1_1 + 1))).bind fun t386 => (laws_markCellS.l0 k1 (y385.set (x5_1 : Int).toNat (⟨(rd_T96 y385 x5_1).f0, t386⟩ : S96)) (wrap64 ((wrap64 (x1_1 + 1)) + 1)) (wrap64 (x5_1 + 1)))) = some (r1, r2) := by first | (rw [hy385]; with_reducible exact H) | (have H2_ := (Option.bind_some _ _).symm.trans H; rw [hy385]; with_reducible exact H2_) | (have H2_ := (Option.bind_some _ _).symm.trans H; with_reducible exact H2_) | with_reducible exact H | (rw [hy385]; exact H) | exact H
     have Ny385 := am_ hy385; clear hy385; replace H := Option.bind_eq_some_iff.mp H; obtain ⟨t386, A70, H⟩ := H; replace H : (laws_markCellS.l0 k1 (y385.set (x5_1 : Int).toNat (⟨(rd_T96 y385 x5_1).f0, t386⟩ : S96)) (wrap64 ((wrap64 (x1_1 + 1)) + 1)) (wrap64 (x5_1 + 1))) = some (r1, r2) := H; have A7 := am_ A70; clear A70; obtain ⟨y387, hy387⟩ : ∃ y_ : List (S96), y_ = (y385.set (x5_1 : Int).toNat (⟨(rd_T96 y385 x5_1).f0, t386⟩ : S96)) := ⟨_, rfl⟩; replace H : (laws_markCellS.l0 k1 y387 (wrap64 ((wrap64 (x1_1 + 1)) + 1)) (wrap64 (x5_1 + 1))) = some (r1, r2) := by first | (rw [hy387]; with_reducible exact H) | (have H2_ := (Option.bind_some _ _).symm.trans H; rw [hy387]; with_reducible exact H2_) | (have H2_ := (Option.bind_some _ _).symm.trans H; with_reducible exact H2_) | with_reducible exact H | (rw [hy387]; exact H) | exact H
     have Ny387 := am_ hy387; clear hy387; have H' := am_ H; clear H; obtain ⟨Ao9, co9, eo9⟩ := Kd.R_slice HO_0.out; subst eo9; go_wp2_with (first | ((with_reducible refine gate_callee (f := 47) rfl ?_); refine goesL_ (some 15) rfl rfl Tryz.func47 u8_ rfl #[.int .i64 x1_1] rfl u2_ ?_; (with_reducible refine (laws_markText.calls k1 x1_1 t384 _ A4.out).mono ?_); rintro e w10 ⟨rfl, hb⟩; refine ⟨_, rfl, ?_⟩; replace HO_0 := am_ (Kd.R_below u11_ hb); replace HK := am_ (Kept.below (S := (fun k_ => P0_ k_)) u10_ hb); replace HB := am_ (below_step u0_ hb); (try clear hb); (try clear hb2); (try clear hk); (try clear hi); have p6 : 0 ≤ (x5_1 : Int) := of_decide_eq_true u4_; have q6 : (x5_1 : Int) < ((x0_1.length : Int) : Int) := of_decide_eq_true u4_; obtain ⟨go6, co6, eo6, gb6, gl6, cl6, HG6⟩ := Kd.R_form HO_0.out u110_; (first | cases eo6 | (injection eo6 with ea_ en_ ec_; (first | subst ea_ | (injection ea_ with ea_; subst ea_)); subst ec_; clear en_)); have GB6 := am_ gb6; have GG6 := am_ HG6; clear gb6 gl6 HG6; have HMgo6 := am_ (show (P0_ go6 ∨ w.heap.size ≤ go6) from (HO_0.out.1 _ rfl)); obtain ⟨ce6, hcl6, hM6, hcc6, hfr6⟩ := Kd.R_elem HO_0.out z96 (x5_1 : Int) p6 q6; obtain rfl := k96_openM hM6; have hx6_0 : w10.cell? ⟨go6, (x5_1 : Int).toNat * 2, none⟩ = some (.string ((rd_T96 x0_1 x5_1).f0)) := hcc6 0 _ rfl; have hx6_1 : w10.cell? ⟨go6, (x5_1 : Int).toNat * 2 + 1, none⟩ = some (.string ((rd_T96 x0_1 x5_1).f1)) := hcc6 1 _ rfl; have hf6_0 : w10.frozen? ⟨go6, (x5_1 : Int).toNat * 2, none⟩ = false := hfr6 0; have hf6_1 : w10.frozen? ⟨go6, (x5_1 : Int).toNat * 2 + 1, none⟩ = false := hfr6 1; clear hcl6 hcc6 hfr6 hM6; replace p6 := eq_true p6; replace q6 := eq_true q6; have HX11 := am_ (show Kd.R k96 96 w10 w0.heap.size (fun k_ => (P0_ k_ ∨ w.heap.size ≤ k_)) (.slice (some ⟨go6, 0, none⟩) x0_1.length co9) x0_1 from u11_); obtain ⟨ce11, hcl11, hM11, hcc11, hfr11⟩ := Kd.R_elem HX11.out z96 (x5_1 : Int) (of_decide_eq_true u4_) (by have h_ : (x5_1 : Int) < ((x0_1.length : Int) : Int) := of_decide_eq_true u4_; first | exact h_ | (have e_ := (Kd.R_reads' HO_0.out).1; omega) | simpa using h_); obtain rfl := k96_openM hM11; have HP11 := Kd.R_seg HX11.out (x5_1 : Int) (of_decide_eq_true u4_) (by have h_ : (x5_1 : Int) < ((x0_1.length : Int) : Int) := of_decide_eq_true u4_; first | exact h_ | (have e_ := (Kd.R_reads' HO_0.out).1; omega) | simpa using h_) (seg := [.string t384]) (j := 0) hcl11 hcc11 (show 1 ≤ 2 from by decide) (x' := (⟨t384, (rd_T96 x0_1 x5_1).f1⟩ : S96)) (k96_mkM _ _ _ (⟨t384, (rd_T96 x0_1 x5_1).f1⟩ : S96) ) (fun _ hk => hk); have hx11_0 := hcc11 0 _ rfl; (try simp only [show (k96).sz = 2 from rfl, Nat.mul_one, Nat.add_zero] at hx11_0); have hf11_0 := hfr11 0; (try simp only [show (k96).sz = 2 from rfl, Nat.mul_one, Nat.add_zero] at hf11_0); clear hcl11 hcc11 hfr11 hM11) | ((with_reducible refine gate_store (t := 9) (p := 17) rfl ?_); refine store_event (t := 9) (p := 17) (v := ?vo_w12) (w1 := (w10.setCell ⟨go6, (x5_1 : Int).toNat * 2, none⟩ (.string t384))) ?hg ?ho ?hn ?hr ?_; (case ho => rfl); (case hg => rfl); (case hn => rfl); (case hr => first | (go_simp; done) | (go_simp; rfl)); intro w12 hw; have hg : w10.grownBy w12 (some go6) := (by rw [hw]; exact HP11.2); have hp_ : Kd.R k96 96 w12 w0.heap.size (fun k_ => (P0_ k_ ∨ w.heap.size ≤ k_)) (.slice (some ⟨go6, 0, none⟩) x0_1.length co9) y385 := (by rw [hw, Ny385.out]; exact HP11.1); clear HP11; replace HB := am_ ((by rw [hw]; exact below_set (HB.out) GB6.out : Below w0.heap.size w0 w12)); replace HK := am_ (Kept.of_grown (S := (fun k_ => P0_ k_)) hg u10_ (fun k_ e_ => (HO_0.out.1 k_ e_))); replace HO_0 := am_ (hp_); clear hg hw hp_) | ((with_reducible refine gate_callee (f := 47) rfl ?_); refine goesL_ (some 23) rfl rfl Tryz.func47 u8_ rfl #[.int .i64 (wrap64 (x1_1 + 1))] rfl u2_ ?_; (with_reducible refine (laws_markText.calls k1 (wrap64 (x1_1 + 1)) t386 _ A7.out).mono ?_); rintro e w13 ⟨rfl, hb⟩; refine ⟨_, rfl, ?_⟩; replace HO_0 := am_ (Kd.R_below u11_ hb); replace HK := am_ (Kept.below (S := (fun k_ => P0_ k_)) u10_ hb); replace HB := am_ (below_step u0_ hb); (try clear hb); (try clear hb2); (try clear hk); (try clear hi); have p8 : 0 ≤ (x5_1 : Int) := of_decide_eq_true u4_; have q8 : (x5_1 : Int) < ((x0_1.length : Int) : Int) := of_decide_eq_true u4_; obtain ⟨ce8, hcl8, hM8, hcc8, hfr8⟩ := Kd.R_elem HO_0.out z96 (x5_1 : Int) p8 q8; obtain rfl := k96_openM hM8; have hx8_0 : w13.cell? ⟨go6, (x5_1 : Int).toNat * 2, none⟩ = some (.string ((rd_T96 y385 x5_1).f0)) := hcc8 0 _ rfl; have hx8_1 : w13.cell? ⟨go6, (x5_1 : Int).toNat * 2 + 1, none⟩ = some (.string ((rd_T96 y385 x5_1).f1)) := hcc8 1 _ rfl; have hf8_0 : w13.frozen? ⟨go6, (x5_1 : Int).toNat * 2, none⟩ = false := hfr8 0; have hf8_1 : w13.frozen? ⟨go6, (x5_1 : Int).toNat * 2 + 1, none⟩ = false := hfr8 1; clear hcl8 hcc8 hfr8 hM8; replace p8 := eq_true p8; replace q8 := eq_true q8; have HX14 := am_ (show Kd.R k96 96 w13 w0.heap.size (fun k_ => (P0_ k_ ∨ w.heap.size ≤ k_)) (.slice (some ⟨go6, 0, none⟩) x0_1.length co9) y385 from u11_); obtain ⟨ce14, hcl14, hM14, hcc14, hfr14⟩ := Kd.R_elem HX14.out z96 (x5_1 : Int) (of_decide_eq_true u4_) (by have h_ : (x5_1 : Int) < ((x0_1.length : Int) : Int) := of_decide_eq_true u4_; first | exact h_ | (have e_ := (Kd.R_reads' HO_0.out).1; omega) | simpa using h_); obtain rfl := k96_openM hM14; have HP14 := Kd.R_seg HX14.out (x5_1 : Int) (of_decide_eq_true u4_) (by have h_ : (x5_1 : Int) < ((x0_1.length : Int) : Int) := of_decide_eq_true u4_; first | exact h_ | (have e_ := (Kd.R_reads' HO_0.out).1; omega) | simpa using h_) (seg := [.string t386]) (j := 1) hcl14 hcc14 (show 2 ≤ 2 from by decide) (x' := (⟨(rd_T96 y385 x5_1).f0, t386⟩ : S96)) (k96_mkM _ _ _ (⟨(rd_T96 y385 x5_1).f0, t386⟩ : S96) ) (fun _ hk => hk); have hx14_1 := hcc14 1 _ rfl; (try simp only [show (k96).sz = 2 from rfl, Nat.mul_one, Nat.add_zero] at hx14_1); have hf14_1 := hfr14 1; (try simp only [show (k96).sz = 2 from rfl, Nat.mul_one, Nat.add_zero] at hf14_1); clear hcl14 hcc14 hfr14 hM14) | ((with_reducible refine gate_store (t := 9) (p := 25) rfl ?_); refine store_event (t := 9) (p := 25) (v := ?vo_w15) (w1 := (w13.setCell ⟨go6, (x5_1 : Int).toNat * 2 + 1, none⟩ (.string t386))) ?hg ?ho ?hn ?hr ?_; (case ho => rfl); (case hg => rfl); (case hn => rfl); (case hr => first | (go_simp; done) | (go_simp; rfl)); intro w15 hw; have hg : w13.grownBy w15 (some go6) := (by rw [hw]; exact HP14.2); have hp_ : Kd.R k96 96 w15 w0.heap.size (fun k_ => (P0_ k_ ∨ w.heap.size ≤ k_)) (.slice (some ⟨go6, 0, none⟩) x0_1.length co9) y387 := (by rw [hw, Ny387.out]; exact HP14.1); clear HP14; replace HB := am_ ((by rw [hw]; exact below_set (HB.out) GB6.out : Below w0.heap.size w0 w15)); replace HK := am_ (Kept.of_grown (S := (fun k_ => P0_ k_)) hg u10_ (fun k_ e_ => (HO_0.out.1 k_ e_))); replace HO_0 := am_ (hp_); clear hg hw hp_))
     go_roundg k1
     case measure => have := HK1.out; omega
     case rel => exact ⟨(y387), (wrap64 ((wrap64 (x1_1 + 1)) + 1)), (wrap64 (x5_1 + 1)), u15_, u15_, H', ⟨u70_⟩, ⟨u11_⟩, ⟨u10_⟩, ⟨u0_⟩⟩
    ·exact u153_
   ·rw [if_neg c3] at H; have c3b0 : decide (x5_1 < (x0_1.length : Int)) = false := decide_eq_false c3; clear c3; simp only [Option.some.injEq, Prod.mk.injEq] at H; obtain ⟨rfl, rfl⟩ := H; obtain ⟨Ao16, co16, eo16⟩ := Kd.R_slice HO_0.out; subst eo16; go_wp2; go_ret
    exact ⟨u5_, u11_, u0_, u10_⟩

/-! ### laws_markDoc: function 20 -/
def laws_markDoc.f (k : Nat) (a0_0 : ByteArray) (l0_1 : List (S96)) (a1 : Int) : Option (Int × (List (S96))) := (laws_markCellS.f k l0_1 a1).bind fun bt389 => (some (bt389.1, bt389.2))
theorem laws_markDoc.mono : ∀ a0 a1 a2 k, LeO (laws_markDoc.f k a0 a1 a2) (laws_markDoc.f (k + 1) a0 a1 a2) := by
 intro a0 a1 a2 k; unfold laws_markDoc.f
 repeat' first
   | (with_reducible exact laws_markCellS.mono _ _ _)
   | (with_reducible exact LeO.refl _)
   | (with_reducible exact LeO.none _)
   | (with_reducible refine LeO.ite ?_ ?_)
   | (with_reducible refine LeO.bind ?_ (fun _ => ?_))
   | exact laws_markCellS.mono _ _ _
   | exact LeO.none _
   | refine LeO.ite ?_ ?_
   | refine LeO.bind ?_ (fun _ => ?_)
set_option maxHeartbeats 8000000 in
set_option maxRecDepth 100000 in
theorem laws_markDoc.calls (k : Nat) (a0_0 : ByteArray) (P0_1_ : Nat → Prop) (u9000_ : Value) (l0_1 : List (S96)) (a1 : Int) (r1 : Int) (r2 : List (S96)) (w0 w : World) (hB : Below w0.heap.size w0 w) (ho0_1 : Kd.R k96 96 w w0.heap.size P0_1_ u9000_ l0_1) (h : laws_markDoc.f k a0_0 l0_1 a1 = some (r1, r2)) :
  Calls Tryz.prog 20 #[.agg #[.string a0_0, u9000_], .int .i64 a1] w fun e w' => e = .returned (.int .i64 r1) ∧ Kd.R k96 96 w' w0.heap.size (fun k_ => (P0_1_ k_ ∨ w.heap.size ≤ k_)) u9000_ r2 ∧ Below w0.heap.size w0 w' ∧ Kept w w' (fun k_ => P0_1_ k_) := by
 have hu45 := Tryz.underlying45; have HO0_1 := am_ (show Kd.R k96 96 w w0.heap.size (fun k_ => (P0_1_ k_ ∨ w.heap.size ≤ k_)) u9000_ l0_1 from Kd.R_mono ho0_1 (fun k_ hk => (.inl hk))); have HK := am_ (Kept.refl w (fun k_ => P0_1_ k_)); have HW0 := am_ hB.size; have HB := am_ hB; clear hB; have H : ((laws_markCellS.f k l0_1 a1).bind fun bt389 => (some (bt389.1, bt389.2))) = some (r1, r2) := h; clear h; replace H := Option.bind_eq_some_iff.mp H; obtain ⟨⟨t389, t390⟩, A30, H⟩ := H; replace H : (some (t389, t390)) = some (r1, r2) := H; have A3 := am_ A30; clear A30; simp only [Option.some.injEq, Prod.mk.injEq] at H; obtain ⟨rfl, rfl⟩ := H; obtain ⟨Ao4, co4, eo4⟩ := Kd.R_slice HO0_1.out; subst eo4; go_enter Tryz.func20, Tryz.ntmps20
 go_wp2_with (first | ((with_reducible refine gate_dst (N := 2) rfl ?_); refine box_event ?hg (N := 2) ?hd (cs := #[.string a0_0, .slice Ao4 l0_1.length co4]) (t := 45) ?hr ?_; (case hd => rfl); (case hg => rfl); (case hr => first | (go_simp; done) | (go_simp; rfl)); intro gb388 hg w5 hbox hb; replace HO0_1 := am_ (Kd.R_below u150_ hb); have BK388 := am_ (hbox); have GW388 := am_ ((by rw [hg]; exact (by first | exact HK.out.1 | exact (show Kept w _ (fun k_ => P0_1_ k_) from by repeat (first | (with_reducible first | exact HK.out | apply Kept.alloc | apply Kept.drewN | apply Kept.drew) | exact HK.out)).1) : w.heap.size ≤ gb388)); replace HK := am_ (Kept.below (S := (fun k_ => P0_1_ k_)) u10_ hb); have GE388 := am_ ((by rw [hg]; exact (below_size u0_) : w0.heap.size ≤ gb388)); replace HB := am_ (below_step u0_ hb); clear hb hbox hg; have hcz6_0 : w5.cell? ⟨gb388, 0, none⟩ = some (.string a0_0) := (blk_cell BK388.out 0).trans rfl; have hcz6_1 : w5.cell? ⟨gb388, 1, none⟩ = some (.slice Ao4 l0_1.length co4) := (blk_cell BK388.out 1).trans rfl; have hfz6_0 := blk_frozen BK388.out 0; have hfz6_1 := blk_frozen BK388.out 1) | ((with_reducible refine gate_callee (f := 48) rfl ?_); refine goesL_ (some 8) rfl rfl Tryz.func48 u8_ rfl #[.slice Ao4 l0_1.length co4, .int .i64 a1] rfl u2_ ?_; (with_reducible refine (laws_markCellS.calls k (fun k_ => some k_ = (.slice Ao4 l0_1.length co4 : Value).ownBlock) (.slice Ao4 l0_1.length co4) l0_1 a1 t389 t390 w0 _ ?side1 ?side2 A3.out).mono ?_); (case side1 => repeat (first | (with_reducible first | exact HB.out | apply below_alloc | apply pw_below_drewN | apply below_drew1 | refine below_set ?_ GE388.out) | exact HB.out)); (case side2 => exact Kd.R_tight rfl HO0_1.out); rintro e w7 ⟨rfl, hy0, hb, hkp⟩; refine ⟨_, rfl, ?_⟩; replace BK388 := am_ (blk_kept (by (with_reducible repeat (first | refine blk_drewN ?_ _ | refine blk_drew ?_ | refine blk_alloc ?_ _)); exact BK388.out) hkp (fun hs_ => (fun e_ => (Kd.R_ne HO0_1.out BK388.out u57_) e_) hs_)); replace HK := am_ (Kept.then_ (S := (fun k_ => P0_1_ k_)) u118_ hkp (fun k_ hs_ => (fun e_ => (HO0_1.out.1 k_ e_.symm)) hs_)); replace HO0_1 := am_ (Kd.R_reok rfl hy0 (fun k_ e_ => HO0_1.out.1 k_ e_)); replace HB := am_ (hb); (try clear hb); (try clear hkp); (try clear hy0)))
 go_ret
 exact ⟨u5_, u150_, by repeat (first | (with_reducible first | exact HB.out | apply below_alloc | apply pw_below_drewN | apply below_drew1 | refine below_set ?_ GE388.out) | exact HB.out), u118_⟩

end Go.Proofs.YtelcdhjdlgedeaaGreatDoor.PFnExactDocTags
