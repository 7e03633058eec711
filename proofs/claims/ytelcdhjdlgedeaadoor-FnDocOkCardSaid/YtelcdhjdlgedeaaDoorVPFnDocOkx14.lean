/- Contracts of Go functions that the law FnDocOk reaches: each is told as a plain Lean function, with the walk that shows it; no condition beyond what each states. Written by a program of this session round the kit's printer. -/
import Derived.Test.YtelcdhjdlgedeaaDoorVPFnDocOkx0
import Derived.Test.YtelcdhjdlgedeaaDoorVPFnDocOkx1
import Derived.Test.YtelcdhjdlgedeaaDoorVPFnDocOkx9
import Derived.Test.YtelcdhjdlgedeaaDoorVPFnDocOkx12
import Derived.Test.YtelcdhjdlgedeaaDoorVPFnDocOkx13
namespace Go.Proofs.YtelcdhjdlgedeaaDoor.PFnDocOk
open Go.RowKit Go.Proofs.YtelcdhjdlgedeaaDoorW.PrintWords Go.Proofs.YtelcdhjdlgedeaaDoorW.PrintLast Go.Proofs.YtelcdhjdlgedeaaDoorW.PrintMore
attribute [local go_sem] run_str_geq run_str_leq max2_int min2_int max_two min_two max_three min_three max_four min_four   -- for this text's walks alone
set_option linter.unusedVariables false
set_option linter.unusedSimpArgs false

/-! ### spec_DocOk: function 27 -/
def spec_DocOk.l0 : Nat → List (S75) → Int → ByteArray → List (S46) → Option (Bool)
 | 0, _, _, _, _ => none
 | k + 1, x0, x5, x419000, x419001 => if x5 < (x419001.length : Int) then (if 0 ≤ x5 then ((spec_l2Field.f k x0 ((rd_T46 x419001 x5).f0)).bind fun t422 => (if t422 < 0 then (some false) else (if 0 ≤ t422 then (if t422 < (x0.length : Int) then ((spec_l2Cell.f k ((rd_T75 x0 t422).f0) ((rd_T75 x0 t422).f1) ((rd_T75 x0 t422).f2) ((rd_T46 x419001 x5).f1)).bind fun t425 => (if t425 = true then (spec_DocOk.l0 k x0 (wrap64 (x5 + 1)) x419000 x419001) else (some false))) else (none)) else (none)))) else (none)) else ((spec_FieldsOk.f k x0).bind fun t419 => (if t419 = true then ((spec_l2Form.f k x419000 x419001).bind fun t420 => (some t420)) else (some false)))
def spec_DocOk.f (k : Nat) (l0 : List (S75)) (a1_0 : ByteArray) (l1_1 : List (S46)) : Option (Bool) := spec_DocOk.l0 k l0 0 a1_0 l1_1
theorem spec_DocOk.mono_l : ∀ k, (∀ y0 y1 y2 y3, LeO (spec_DocOk.l0 k y0 y1 y2 y3) (spec_DocOk.l0 (k + 1) y0 y1 y2 y3))
 | 0 => fun _ _ _ _ r h => by simp [spec_DocOk.l0] at h
 | k + 1 => by
  have ih0 := spec_DocOk.mono_l k
  ·intro y0 y1 y2 y3; unfold spec_DocOk.l0
   repeat' first
   | (with_reducible exact ih0 _ _ _ _)
   | (with_reducible exact spec_FieldsOk.mono _ _)
   | (with_reducible exact spec_l2Cell.mono _ _ _ _ _)
   | (with_reducible exact spec_l2Field.mono _ _ _)
   | (with_reducible exact spec_l2Form.mono _ _ _)
   | (with_reducible exact LeO.refl _)
   | (with_reducible exact LeO.none _)
   | (with_reducible refine LeO.ite ?_ ?_)
   | (with_reducible refine LeO.bind ?_ (fun _ => ?_))
   | exact ih0 _ _ _ _
   | exact spec_FieldsOk.mono _ _
   | exact spec_l2Cell.mono _ _ _ _ _
   | exact spec_l2Field.mono _ _ _
   | exact spec_l2Form.mono _ _ _
   | exact LeO.none _
   | refine LeO.ite ?_ ?_
   | refine LeO.bind ?_ (fun _ => ?_)
theorem spec_DocOk.mono : ∀ a0 a1 a2 k, LeO (spec_DocOk.f k a0 a1 a2) (spec_DocOk.f (k + 1) a0 a1 a2) := by
 intro a0 a1 a2 k; have ih0 := spec_DocOk.mono_l k; unfold spec_DocOk.f
 repeat' first
   | (with_reducible exact ih0 _ _ _ _)
   | (with_reducible exact spec_FieldsOk.mono _ _)
   | (with_reducible exact spec_l2Cell.mono _ _ _ _ _)
   | (with_reducible exact spec_l2Field.mono _ _ _)
   | (with_reducible exact spec_l2Form.mono _ _ _)
   | (with_reducible exact LeO.refl _)
   | (with_reducible exact LeO.none _)
   | (with_reducible refine LeO.ite ?_ ?_)
   | (with_reducible refine LeO.bind ?_ (fun _ => ?_))
   | exact ih0 _ _ _ _
   | exact spec_FieldsOk.mono _ _
   | exact spec_l2Cell.mono _ _ _ _ _
   | exact spec_l2Field.mono _ _ _
   | exact spec_l2Form.mono _ _ _
   | exact LeO.none _
   | refine LeO.ite ?_ ?_
   | refine LeO.bind ?_ (fun _ => ?_)
def spec_DocOk.T5 : Bool × List (List Nat × List Nat) := (true, [([], []), ([0], [0]), ([1], [1]), ([2], [2]), ([2], [2]), ([3, 4, 2], [2, 3, 4]), ([5, 2], [2, 5]), ([2], [2]), ([7, 2], [2, 7]), ([2], [2]), ([8, 9, 2], [2, 8, 9]), ([10, 2], [2, 10]), ([11, 2], [2, 11]), ([6, 12, 2, 2], [2, 6, 12]), ([13, 2], [2, 13]), ([2, 14], [2, 14])])
def spec_DocOk.B5 : List Nat := [0, 1, 3, 7, 7, 31, 63, 7, 135, 7, 903, 1927, 3975, 8191, 16383, 32767]
theorem spec_DocOk.tab5 : rtab .any (opsOf Tryd.f27 5) = spec_DocOk.T5 := by kernel_rfl
theorem spec_DocOk.bits5 : waitsOk spec_DocOk.T5.2 spec_DocOk.B5 = true := by kernel_rfl
set_option maxHeartbeats 8000000 in
set_option maxRecDepth 100000 in
theorem spec_DocOk.calls (k : Nat) (A0 : Option Addr) (c0 : Nat) (l0 : List (S75)) (a1_0 : ByteArray) (A1_1 : Option Addr) (c1_1 : Nat) (l1_1 : List (S46)) (r : Bool) (w : World) (hr0 : Kd.C k75 w A0 l0.length l0) (hc0 : l0.length ≤ c0) (hr1_1 : Kd.C k46 w A1_1 l1_1.length l1_1) (hc1_1 : l1_1.length ≤ c1_1) (h : spec_DocOk.f k l0 a1_0 l1_1 = some r) :
  Calls Tryd.prog 27 #[.slice A0 l0.length c0, .agg #[.string a1_0, .slice A1_1 l1_1.length c1_1]] w fun e w' => e = .returned (.bool r) ∧ Below w.heap.size w w' := by
 have hu41 := Tryd.underlying41; have hu75 := Tryd.underlying75; have HR0 := am_ hr0; have HC0 := am_ hc0; clear hr0 hc0; have HR1_1 := am_ hr1_1; have HC1_1 := am_ hc1_1; clear hr1_1 hc1_1; have HB := am_ (Below.refl w.heap.size w); have H : (spec_DocOk.l0 k l0 0 a1_0 l1_1) = some r := h; clear h; have H' := am_ H; clear H; go_enter Tryd.func27, Tryd.ntmps27
 go_wp2_with (first | ((with_reducible refine gate_dst (N := 3) rfl ?_); refine box_event ?hg (N := 3) ?hd (cs := #[.string a1_0, .slice A1_1 l1_1.length c1_1]) (t := 41) ?hr ?_; (case hd => rfl); (case hg => rfl); (case hr => exact u33_); intro gb418 hg w3 hbox hb; have BK418 := am_ (hbox); have GW418 := am_ ((by rw [hg]; exact (below_size u2_) : w.heap.size ≤ gb418)); have GE418 := GW418; replace HB := am_ (below_step u2_ hb); clear hb hbox hg))
 go_loopg [5] k (fun kq v5 w' => ∃ (x5_1 : Int), v5 = .int .i64 x5_1 ∧ Aside0 (spec_DocOk.l0 kq l0 x5_1 a1_0 l1_1 = some r) ∧ Aside0 (kq ≤ k) ∧ Aside0 (w'.heap[gb418]? = some (.cells #[.string a1_0, (.slice A1_1 l1_1.length c1_1)] 41 (0, 0))) ∧ Aside0 (Below w.heap.size w w'))
 case atStart => exact ⟨(0), u35_, H', ⟨Nat.le_refl _⟩, ⟨u83_⟩, ⟨u56_⟩⟩
 case round =>
  clear H'; try clear c1
  try clear c2
  try clear p2
  obtain ⟨x5_1, rfl, HA, HK1, BK418, HB⟩ := hrel; cases gk with
  | zero => exact absurd HA.out (by simp [spec_DocOk.l0])
  | succ k1 =>
   have H := HA.out; clear HA; simp only [spec_DocOk.l0] at H; by_cases c4 : x5_1 < (l1_1.length : Int)
   ·rw [if_pos c4] at H; have c4b0 : decide (x5_1 < (l1_1.length : Int)) = true := decide_eq_true c4; clear c4; by_cases c5 : 0 ≤ x5_1
    ·rw [if_pos c5] at H; have c5b0 : decide (0 ≤ x5_1) = true := decide_eq_true c5; clear c5; replace H := Option.bind_eq_some_iff.mp H; obtain ⟨t422, A60, H⟩ := H; replace H : (if t422 < 0 then (some false) else (if 0 ≤ t422 then (if t422 < (l0.length : Int) then ((spec_l2Cell.f k1 ((rd_T75 l0 t422).f0) ((rd_T75 l0 t422).f1) ((rd_T75 l0 t422).f2) ((rd_T46 l1_1 x5_1).f1)).bind fun t425 => (if t425 = true then (spec_DocOk.l0 k1 l0 (wrap64 (x5_1 + 1)) a1_0 l1_1) else (some false))) else (none)) else (none))) = some r := H; have A6 := am_ A60; clear A60; by_cases c7 : t422 < 0
     ·rw [if_pos c7] at H; have c7b0 : decide (t422 < 0) = true := decide_eq_true c7; clear c7; obtain rfl := Option.some.inj H; have hcz8_0 : wr.cell? ⟨gb418, 0, none⟩ = some (.string a1_0) := (blk_cell BK418.out 0).trans rfl; have hcz8_1 : wr.cell? ⟨gb418, 1, none⟩ = some (.slice A1_1 l1_1.length c1_1) := (blk_cell BK418.out 1).trans rfl; have hfz8_0 := blk_frozen BK418.out 0; have hfz8_1 := blk_frozen BK418.out 1; have p421 : 0 ≤ (x5_1 : Int) := of_decide_eq_true u5_; have q421 : x5_1 < (l1_1.length : Int) := of_decide_eq_true u5_; obtain ⟨ad421, e421, hx421_0, hx421_1⟩ := at_T46 HR1_1.out x5_1 p421 q421; cases e421; replace hx421_0 := (HB.out.cell (World.block_lt_of_cell? w _ hx421_0)).trans hx421_0; replace hx421_1 := (HB.out.cell (World.block_lt_of_cell? w _ hx421_1)).trans hx421_1; replace p421 := eq_true p421; replace q421 := eq_true q421; try go_wp2_with (first | ((with_reducible refine gate_callee (f := 63) rfl ?_); refine goesL_ (some 21) rfl rfl Tryd.func63 u23_ rfl #[.slice A0 l0.length c0, .string ((rd_T46 l1_1 x5_1).f0)] rfl u1_ ?_; (with_reducible refine (spec_l2Field.calls k1 _ _ l0 ((rd_T46 l1_1 x5_1).f0) t422 _ ?side1 ?side2 A6.out).mono ?_); (case side1 => exact u88_); (case side2 => exact u191_); rintro e w' ⟨rfl, ⟨nd, rfl⟩⟩; refine ⟨_, rfl, ?_⟩))
      (try (rw [drewN_self wr]; generalize hq_ : World.drewN wr _ = wr; have n0_ : Aside0 (wr.heap[gb418]? = some (.cells #[.string a1_0, .slice (some ad421) l1_1.length c1_1] 41 (0, 0))) := ⟨by rw [← hq_]; exact u83_⟩; have n1_ : Aside0 (Below w.heap.size w wr) := ⟨by rw [← hq_]; exact u56_⟩; clear BK418 HB hq_; have BK418 := n0_; have HB := n1_; clear n0_ n1_))
      replace BK418 := am_ (blk_drew BK418.out); replace HB := am_ (below_drew1 HB.out); refine start_ (n := 16) (S := fun w' => True) (ds := []) (bm_ 16 0) u23_ rfl rfl trivial (fun hHeld => ?_); refine with_tabW spec_DocOk.tab5 spec_DocOk.bits5 (fun HT_ HW_ => ?_); generalize wr.drew = w9 at BK418 HB hHeld ⊢; refine pure_ (i := 0) (N := some 22) (v := ?_) (a' := ?_) (bm_ 16 1) rfl rfl (any_of HT_.out u23_) (fun _ _ _ h => h) (Or.inl ⟨u82_, ?_⟩) ?_ ?_; rotate_left
      ·exact u22_
      rotate_left
      ·exact u0_
      refine pure_ (i := 1) (N := some 23) (v := ?_) (a' := ?_) (bm_ 16 3) rfl rfl (any_of HT_.out u23_) (fun _ _ _ h => h) (Or.inl ⟨u82_, ?_⟩) ?_ ?_; rotate_left
      ·exact u22_
      rotate_left
      ·exact u0_
      refine pure_ (i := 2) (N := some 24) (v := ?_) (a' := ?_) (bm_ 16 7) rfl rfl (any_of HT_.out u23_) (fun _ _ _ h => h) (Or.inl ⟨u82_, ?_⟩) ?_ ?_; rotate_left
      ·exact u22_
      rotate_left
      ·exact u0_
      refine pure_ (i := 3) (N := some 25) (v := undef) (a' := ?_) (bm_ 16 15) rfl rfl (any_of HT_.out u23_) (fun _ _ _ h => h) (Or.inr ⟨u82_, rfl⟩) ?_ ?_; rotate_left
      ·exact u0_
      refine pure_ (i := 4) (N := some 26) (v := undef) (a' := ?_) (bm_ 16 31) rfl rfl (any_of HT_.out u23_) (fun _ _ _ h => h) (Or.inr ⟨u82_, rfl⟩) ?_ ?_; rotate_left
      ·exact u0_
      refine pure_ (i := 5) (N := some 27) (v := undef) (a' := ?_) (bm_ 16 63) rfl rfl (any_of HT_.out u23_) (fun _ _ _ h => h) (Or.inr ⟨u82_, rfl⟩) ?_ ?_; rotate_left
      ·exact u0_
      refine pure_ (i := 6) (N := some 28) (v := undef) (a' := ?_) (bm_ 16 127) rfl rfl (any_of HT_.out u23_) (fun _ _ _ h => h) (Or.inr ⟨u82_, rfl⟩) ?_ ?_; rotate_left
      ·exact u0_
      refine pure_ (i := 7) (N := some 29) (v := undef) (a' := ?_) (bm_ 16 255) rfl rfl (any_of HT_.out u23_) (fun _ _ _ h => h) (Or.inr ⟨u82_, rfl⟩) ?_ ?_; rotate_left
      ·exact u0_
      refine pure_ (i := 8) (N := some 30) (v := undef) (a' := ?_) (bm_ 16 511) rfl rfl (any_of HT_.out u23_) (fun _ _ _ h => h) (Or.inr ⟨u82_, rfl⟩) ?_ ?_; rotate_left
      ·exact u0_
      refine pure_ (i := 9) (N := some 31) (v := undef) (a' := ?_) (bm_ 16 1023) rfl rfl (any_of HT_.out u23_) (fun _ _ _ h => h) (Or.inr ⟨u82_, rfl⟩) ?_ ?_; rotate_left
      ·exact u0_
      refine pure_ (i := 10) (N := some 32) (v := undef) (a' := ?_) (bm_ 16 2047) rfl rfl (any_of HT_.out u23_) (fun _ _ _ h => h) (Or.inr ⟨u82_, rfl⟩) ?_ ?_; rotate_left
      ·exact u0_
      refine pure_ (i := 11) (N := some 33) (v := undef) (a' := ?_) (bm_ 16 4095) rfl rfl (any_of HT_.out u23_) (fun _ _ _ h => h) (Or.inr ⟨u82_, rfl⟩) ?_ ?_; rotate_left
      ·exact u0_
      refine pure_ (i := 12) (N := some 34) (v := undef) (a' := ?_) (bm_ 16 8191) rfl rfl (any_of HT_.out u23_) (fun _ _ _ h => h) (Or.inr ⟨u82_, rfl⟩) ?_ ?_; rotate_left
      ·exact u0_
      refine pure_ (i := 13) (N := some 35) (v := undef) (a' := ?_) (bm_ 16 16383) rfl rfl (any_of HT_.out u23_) (fun _ _ _ h => h) (Or.inr ⟨u82_, rfl⟩) ?_ ?_; rotate_left
      ·exact u0_
      refine pure_ (i := 14) (N := some 36) (v := undef) (a' := ?_) (bm_ 16 32767) rfl rfl (any_of HT_.out u23_) (fun _ _ _ h => h) (Or.inr ⟨u82_, rfl⟩) ?_ ?_; rotate_left
      ·exact u0_
      refine pure_ (i := 15) (N := some 37) (v := ?_) (a' := ?_) (bm_ 16 65535) rfl rfl (any_of HT_.out u23_) (fun _ _ _ h => h) (Or.inl ⟨u82_, ?_⟩) ?_ ?_; rotate_left
      ·exact u22_
      rotate_left
      ·exact u0_
      refine done_ (done_of HT_.out u23_) ?_; try go_wp2
      go_ret
      exact ⟨u6_, u56_⟩
     ·rw [if_neg c7] at H; have c7b0 : decide (t422 < 0) = false := decide_eq_false c7; clear c7; by_cases c10 : 0 ≤ t422
      ·rw [if_pos c10] at H; have c10b0 : decide (0 ≤ t422) = true := decide_eq_true c10; clear c10; by_cases c11 : t422 < (l0.length : Int)
       ·rw [if_pos c11] at H; have c11b0 : decide (t422 < (l0.length : Int)) = true := decide_eq_true c11; clear c11; replace H := Option.bind_eq_some_iff.mp H; obtain ⟨t425, A120, H⟩ := H; replace H : (if t425 = true then (spec_DocOk.l0 k1 l0 (wrap64 (x5_1 + 1)) a1_0 l1_1) else (some false)) = some r := H; have A12 := am_ A120; clear A120; by_cases c13 : t425 = true
        ·subst c13; rw [if_pos rfl] at H; have H' := am_ H; clear H; have hcz14_0 : wr.cell? ⟨gb418, 0, none⟩ = some (.string a1_0) := (blk_cell BK418.out 0).trans rfl; have hcz14_1 : wr.cell? ⟨gb418, 1, none⟩ = some (.slice A1_1 l1_1.length c1_1) := (blk_cell BK418.out 1).trans rfl; have hfz14_0 := blk_frozen BK418.out 0; have hfz14_1 := blk_frozen BK418.out 1; have p421 : 0 ≤ (x5_1 : Int) := of_decide_eq_true u5_; have q421 : x5_1 < (l1_1.length : Int) := of_decide_eq_true u5_; obtain ⟨ad421, e421, hx421_0, hx421_1⟩ := at_T46 HR1_1.out x5_1 p421 q421; cases e421; replace hx421_0 := (HB.out.cell (World.block_lt_of_cell? w _ hx421_0)).trans hx421_0; replace hx421_1 := (HB.out.cell (World.block_lt_of_cell? w _ hx421_1)).trans hx421_1; replace p421 := eq_true p421; replace q421 := eq_true q421; try go_wp2_with (first | ((with_reducible refine gate_callee (f := 63) rfl ?_); refine goesL_ (some 21) rfl rfl Tryd.func63 u23_ rfl #[.slice A0 l0.length c0, .string ((rd_T46 l1_1 x5_1).f0)] rfl u1_ ?_; (with_reducible refine (spec_l2Field.calls k1 _ _ l0 ((rd_T46 l1_1 x5_1).f0) t422 _ ?side1 ?side2 A6.out).mono ?_); (case side1 => exact u88_); (case side2 => exact u191_); rintro e w' ⟨rfl, ⟨nd, rfl⟩⟩; refine ⟨_, rfl, ?_⟩))
         (try (rw [drewN_self wr]; generalize hq_ : World.drewN wr _ = wr; have n0_ : Aside0 (wr.heap[gb418]? = some (.cells #[.string a1_0, .slice (some ad421) l1_1.length c1_1] 41 (0, 0))) := ⟨by rw [← hq_]; exact u83_⟩; have n1_ : Aside0 (Below w.heap.size w wr) := ⟨by rw [← hq_]; exact u56_⟩; clear BK418 HB hq_; have BK418 := n0_; have HB := n1_; clear n0_ n1_))
         replace BK418 := am_ (blk_drew BK418.out); replace HB := am_ (below_drew1 HB.out); have p423 : 0 ≤ (t422 : Int) := of_decide_eq_true u5_; have q423 : t422 < (l0.length : Int) := of_decide_eq_true u5_; obtain ⟨ad423, e423, hx423_0, hx423_1, hx423_2⟩ := at_T75 HR0.out t422 p423 q423; have hw423_2 := hx423_2; have hw423_1 := hx423_1; have hw423_0 := hx423_0; cases e423; replace hx423_0 := (HB.out.cell (World.block_lt_of_cell? w _ hx423_0)).trans hx423_0; replace hx423_1 := (HB.out.cell (World.block_lt_of_cell? w _ hx423_1)).trans hx423_1; replace hx423_2 := (HB.out.cell (World.block_lt_of_cell? w _ hx423_2)).trans hx423_2; replace p423 := eq_true p423; replace q423 := eq_true q423; have p424 : 0 ≤ (x5_1 : Int) := of_decide_eq_true u5_; have q424 : x5_1 < (l1_1.length : Int) := of_decide_eq_true u5_; obtain ⟨ad424, e424, hx424_0, hx424_1⟩ := at_T46 HR1_1.out x5_1 p424 q424; have hw424_1 := hx424_1; have hw424_0 := hx424_0; obtain rfl : ad421 = ad424 := (by injection e424); replace hx424_0 := (HB.out.cell (World.block_lt_of_cell? w _ hx424_0)).trans hx424_0; replace hx424_1 := (HB.out.cell (World.block_lt_of_cell? w _ hx424_1)).trans hx424_1; replace p424 := eq_true p424; replace q424 := eq_true q424; refine start_ (n := 16) (S := fun w' => w'.cell? ⟨gb418, 0, none⟩ = some (.string a1_0) ∧ w'.cell? ⟨gb418, 1, none⟩ = some (.slice (some ad421) l1_1.length c1_1) ∧ w'.cell? (ad423.add ((t422).toNat * 3)) = some (.string ((rd_T75 l0 t422).f0)) ∧ w'.cell? ⟨(ad423.add ((t422).toNat * 3)).block, (ad423.add ((t422).toNat * 3)).off + 1, none⟩ = some (.int .i64 ((rd_T75 l0 t422).f1)) ∧ w'.cell? ⟨(ad423.add ((t422).toNat * 3)).block, (ad423.add ((t422).toNat * 3)).off + 2, none⟩ = some (.int .i64 ((rd_T75 l0 t422).f2)) ∧ w'.cell? (ad421.add ((x5_1).toNat * 2)) = some (.string ((rd_T46 l1_1 x5_1).f0)) ∧ w'.cell? ⟨(ad421.add ((x5_1).toNat * 2)).block, (ad421.add ((x5_1).toNat * 2)).off + 1, none⟩ = some (.string ((rd_T46 l1_1 x5_1).f1))) (ds := []) (bm_ 16 0) u23_ rfl rfl ⟨(blk_cell BK418.out 0).trans rfl, (blk_cell BK418.out 1).trans rfl, ((HB.out.cell (World.block_lt_of_cell? w _ hw423_0)).trans hw423_0), ((HB.out.cell (World.block_lt_of_cell? w _ hw423_1)).trans hw423_1), ((HB.out.cell (World.block_lt_of_cell? w _ hw423_2)).trans hw423_2), ((HB.out.cell (World.block_lt_of_cell? w _ hw424_0)).trans hw424_0), ((HB.out.cell (World.block_lt_of_cell? w _ hw424_1)).trans hw424_1)⟩ (fun hHeld => ?_); refine with_tabW spec_DocOk.tab5 spec_DocOk.bits5 (fun HT_ HW_ => ?_); generalize wr.drew = w15 at BK418 HB hx423_0 hx423_1 hx423_2 hx424_0 hx424_1 hHeld ⊢; refine pure_ (i := 0) (N := some 22) (v := ?_) (a' := ?_) (bm_ 16 1) rfl rfl (any_of HT_.out u23_) (fun _ _ _ h => h) (Or.inl ⟨u82_, ?_⟩) ?_ ?_; rotate_left
         ·exact u22_
         rotate_left
         ·exact u0_
         refine pure_ (i := 1) (N := some 23) (v := ?_) (a' := ?_) (bm_ 16 3) rfl rfl (any_of HT_.out u23_) (fun _ _ _ h => h) (Or.inl ⟨u82_, ?_⟩) ?_ ?_; rotate_left
         ·exact u22_
         rotate_left
         ·exact u0_
         refine pure_ (i := 2) (N := some 24) (v := ?_) (a' := ?_) (bm_ 16 7) rfl rfl (any_of HT_.out u23_) (fun _ _ _ h => h) (Or.inl ⟨u82_, ?_⟩) ?_ ?_; rotate_left
         ·exact u22_
         rotate_left
         ·exact u0_
         refine pure_ (i := 3) (N := some 25) (v := ?_) (a' := ?_) (bm_ 16 15) rfl rfl (any_of HT_.out u23_) (fun _ _ _ h => h) (Or.inl ⟨u82_, ?_⟩) ?_ ?_; rotate_left
         ·exact u22_
         rotate_left
         ·exact u0_
         refine pure_ (i := 4) (N := some 26) (v := ?_) (a' := ?_) (bm_ 16 31) rfl rfl (any_of HT_.out u23_) (fun _ _ _ h => h) (Or.inl ⟨u82_, ?_⟩) ?_ ?_; rotate_left
         ·exact u22_
         rotate_left
         ·exact u0_
         refine pure_ (i := 5) (N := some 27) (v := ?_) (a' := ?_) (bm_ 16 63) rfl rfl (any_of HT_.out u23_) (fun _ _ _ h => h) (Or.inl ⟨u82_, ?_⟩) ?_ ?_; rotate_left
         ·exact u22_
         rotate_left
         ·exact u0_
         refine pure_ (i := 7) (N := some 29) (v := ?_) (a' := ?_) (bm_ 16 191) rfl rfl (any_of HT_.out u23_) (fun _ _ _ h => h) (Or.inl ⟨u82_, ?_⟩) ?_ ?_; rotate_left
         ·exact u22_
         rotate_left
         ·exact u0_
         refine pure_ (i := 9) (N := some 31) (v := ?_) (a' := ?_) (bm_ 16 703) rfl rfl (any_of HT_.out u23_) (fun _ _ _ h => h) (Or.inl ⟨u82_, ?_⟩) ?_ ?_; rotate_left
         ·exact u22_
         rotate_left
         ·exact u0_
         refine take_ (i := 6) (N := some 28) (v := ?_) (a' := ?_) (bm_ 16 767) rfl rfl (take_ofW HT_.out HW_.out u23_) (fun _ _ _ h => h) (Or.inl ⟨u82_, ?_⟩) hHeld ?_ ?_; rotate_left
         ·exact u150_
         rotate_left
         ·exact u0_
         refine take_ (i := 8) (N := some 30) (v := ?_) (a' := ?_) (bm_ 16 1023) rfl rfl (take_ofW HT_.out HW_.out u23_) (fun _ _ _ h => h) (Or.inl ⟨u82_, ?_⟩) hHeld ?_ ?_; rotate_left
         ·exact u150_
         rotate_left
         ·exact u0_
         refine pure_ (i := 10) (N := some 32) (v := ?_) (a' := ?_) (bm_ 16 2047) rfl rfl (any_of HT_.out u23_) (fun _ _ _ h => h) (Or.inl ⟨u82_, ?_⟩) ?_ ?_; rotate_left
         ·exact u22_
         rotate_left
         ·exact u0_
         refine pure_ (i := 11) (N := some 33) (v := ?_) (a' := ?_) (bm_ 16 4095) rfl rfl (any_of HT_.out u23_) (fun _ _ _ h => h) (Or.inl ⟨u82_, ?_⟩) ?_ ?_; rotate_left
         ·exact u22_
         rotate_left
         ·exact u0_
         refine take_ (i := 12) (N := some 34) (v := ?_) (a' := ?_) (bm_ 16 8191) rfl rfl (take_ofW HT_.out HW_.out u23_) (fun _ _ _ h => h) (Or.inl ⟨u82_, ?_⟩) hHeld ?_ ?_; rotate_left
         ·exact u150_
         rotate_left
         ·exact u0_
         refine one_ (i := 13) (N := some 35) (bm_ 16 16383) rfl rfl (one_of HT_.out u23_) u52_ (fun K hK => ?_); refine goes_ Tryd.func64 u23_ rfl #[.agg #[.string ((rd_T75 l0 t422).f0), .int .i64 ((rd_T75 l0 t422).f1), .int .i64 ((rd_T75 l0 t422).f2)], .string ((rd_T46 l1_1 x5_1).f1)] u82_ rfl rfl u1_ ?_; with_reducible refine (spec_l2Cell.calls k1 ((rd_T75 l0 t422).f0) ((rd_T75 l0 t422).f1) ((rd_T75 l0 t422).f2) ((rd_T46 l1_1 x5_1).f1) true _ A12.out).mono ?_
         rintro e w16 ⟨rfl, hb⟩; refine ⟨_, rfl, ?_⟩; replace BK418 := am_ (blk_below (g := gb418) (o := .cells #[.string a1_0, .slice (some ad421) l1_1.length c1_1] 41 (0, 0)) u83_ hb); replace HB := am_ (below_step u56_ hb); (try clear hb)
         (try clear hb2)
         (try clear hk)
         (try clear hi)
         refine hK.out _ _ ⟨(blk_cell BK418.out 0).trans rfl, (blk_cell BK418.out 1).trans rfl, ((HB.out.cell (World.block_lt_of_cell? w _ hw423_0)).trans hw423_0), ((HB.out.cell (World.block_lt_of_cell? w _ hw423_1)).trans hw423_1), ((HB.out.cell (World.block_lt_of_cell? w _ hw423_2)).trans hw423_2), ((HB.out.cell (World.block_lt_of_cell? w _ hw424_0)).trans hw424_0), ((HB.out.cell (World.block_lt_of_cell? w _ hw424_1)).trans hw424_1)⟩ (fun hHeld => ?_); clear hK K; refine norm_ (a' := ?_) ?_ ?_; rotate_left
         ·show Act.put _ (some 35) _ = _
          simp only [Act.put, List.setIfInBounds_toArray, List.set_cons_zero, List.set_cons_succ, i64_w, i32_w]; rfl
         refine pure_ (i := 14) (N := some 36) (v := ?_) (a' := ?_) (bm_ 16 32767) rfl rfl (any_of HT_.out u23_) (fun _ _ _ h => h) (Or.inl ⟨u82_, ?_⟩) ?_ ?_; rotate_left
         ·exact u22_
         rotate_left
         ·exact u0_
         refine pure_ (i := 15) (N := some 37) (v := ?_) (a' := ?_) (bm_ 16 65535) rfl rfl (any_of HT_.out u23_) (fun _ _ _ h => h) (Or.inl ⟨u82_, ?_⟩) ?_ ?_; rotate_left
         ·exact u22_
         rotate_left
         ·exact u0_
         refine done_ (done_of HT_.out u23_) ?_; try go_wp2
         go_roundg k1
         case measure => have := HK1.out; omega
         case rel => exact ⟨(wrap64 (x5_1 + 1)), u35_, H', ⟨u131_⟩, ⟨u83_⟩, ⟨u56_⟩⟩
        ·replace c13 := Bool.eq_false_iff.mpr c13; subst c13; rw [if_neg (show ¬ (false = true) by decide)] at H; obtain rfl := Option.some.inj H; have hcz17_0 : wr.cell? ⟨gb418, 0, none⟩ = some (.string a1_0) := (blk_cell BK418.out 0).trans rfl; have hcz17_1 : wr.cell? ⟨gb418, 1, none⟩ = some (.slice A1_1 l1_1.length c1_1) := (blk_cell BK418.out 1).trans rfl; have hfz17_0 := blk_frozen BK418.out 0; have hfz17_1 := blk_frozen BK418.out 1; have p421 : 0 ≤ (x5_1 : Int) := of_decide_eq_true u5_; have q421 : x5_1 < (l1_1.length : Int) := of_decide_eq_true u5_; obtain ⟨ad421, e421, hx421_0, hx421_1⟩ := at_T46 HR1_1.out x5_1 p421 q421; cases e421; replace hx421_0 := (HB.out.cell (World.block_lt_of_cell? w _ hx421_0)).trans hx421_0; replace hx421_1 := (HB.out.cell (World.block_lt_of_cell? w _ hx421_1)).trans hx421_1; replace p421 := eq_true p421; replace q421 := eq_true q421; try go_wp2_with (first | ((with_reducible refine gate_callee (f := 63) rfl ?_); refine goesL_ (some 21) rfl rfl Tryd.func63 u23_ rfl #[.slice A0 l0.length c0, .string ((rd_T46 l1_1 x5_1).f0)] rfl u1_ ?_; (with_reducible refine (spec_l2Field.calls k1 _ _ l0 ((rd_T46 l1_1 x5_1).f0) t422 _ ?side1 ?side2 A6.out).mono ?_); (case side1 => exact u88_); (case side2 => exact u191_); rintro e w' ⟨rfl, ⟨nd, rfl⟩⟩; refine ⟨_, rfl, ?_⟩))
         (try (rw [drewN_self wr]; generalize hq_ : World.drewN wr _ = wr; have n0_ : Aside0 (wr.heap[gb418]? = some (.cells #[.string a1_0, .slice (some ad421) l1_1.length c1_1] 41 (0, 0))) := ⟨by rw [← hq_]; exact u83_⟩; have n1_ : Aside0 (Below w.heap.size w wr) := ⟨by rw [← hq_]; exact u56_⟩; clear BK418 HB hq_; have BK418 := n0_; have HB := n1_; clear n0_ n1_))
         replace BK418 := am_ (blk_drew BK418.out); replace HB := am_ (below_drew1 HB.out); have p423 : 0 ≤ (t422 : Int) := of_decide_eq_true u5_; have q423 : t422 < (l0.length : Int) := of_decide_eq_true u5_; obtain ⟨ad423, e423, hx423_0, hx423_1, hx423_2⟩ := at_T75 HR0.out t422 p423 q423; have hw423_2 := hx423_2; have hw423_1 := hx423_1; have hw423_0 := hx423_0; cases e423; replace hx423_0 := (HB.out.cell (World.block_lt_of_cell? w _ hx423_0)).trans hx423_0; replace hx423_1 := (HB.out.cell (World.block_lt_of_cell? w _ hx423_1)).trans hx423_1; replace hx423_2 := (HB.out.cell (World.block_lt_of_cell? w _ hx423_2)).trans hx423_2; replace p423 := eq_true p423; replace q423 := eq_true q423; have p424 : 0 ≤ (x5_1 : Int) := of_decide_eq_true u5_; have q424 : x5_1 < (l1_1.length : Int) := of_decide_eq_true u5_; obtain ⟨ad424, e424, hx424_0, hx424_1⟩ := at_T46 HR1_1.out x5_1 p424 q424; have hw424_1 := hx424_1; have hw424_0 := hx424_0; obtain rfl : ad421 = ad424 := (by injection e424); replace hx424_0 := (HB.out.cell (World.block_lt_of_cell? w _ hx424_0)).trans hx424_0; replace hx424_1 := (HB.out.cell (World.block_lt_of_cell? w _ hx424_1)).trans hx424_1; replace p424 := eq_true p424; replace q424 := eq_true q424; refine start_ (n := 16) (S := fun w' => w'.cell? ⟨gb418, 0, none⟩ = some (.string a1_0) ∧ w'.cell? ⟨gb418, 1, none⟩ = some (.slice (some ad421) l1_1.length c1_1) ∧ w'.cell? (ad423.add ((t422).toNat * 3)) = some (.string ((rd_T75 l0 t422).f0)) ∧ w'.cell? ⟨(ad423.add ((t422).toNat * 3)).block, (ad423.add ((t422).toNat * 3)).off + 1, none⟩ = some (.int .i64 ((rd_T75 l0 t422).f1)) ∧ w'.cell? ⟨(ad423.add ((t422).toNat * 3)).block, (ad423.add ((t422).toNat * 3)).off + 2, none⟩ = some (.int .i64 ((rd_T75 l0 t422).f2)) ∧ w'.cell? (ad421.add ((x5_1).toNat * 2)) = some (.string ((rd_T46 l1_1 x5_1).f0)) ∧ w'.cell? ⟨(ad421.add ((x5_1).toNat * 2)).block, (ad421.add ((x5_1).toNat * 2)).off + 1, none⟩ = some (.string ((rd_T46 l1_1 x5_1).f1))) (ds := []) (bm_ 16 0) u23_ rfl rfl ⟨(blk_cell BK418.out 0).trans rfl, (blk_cell BK418.out 1).trans rfl, ((HB.out.cell (World.block_lt_of_cell? w _ hw423_0)).trans hw423_0), ((HB.out.cell (World.block_lt_of_cell? w _ hw423_1)).trans hw423_1), ((HB.out.cell (World.block_lt_of_cell? w _ hw423_2)).trans hw423_2), ((HB.out.cell (World.block_lt_of_cell? w _ hw424_0)).trans hw424_0), ((HB.out.cell (World.block_lt_of_cell? w _ hw424_1)).trans hw424_1)⟩ (fun hHeld => ?_); refine with_tabW spec_DocOk.tab5 spec_DocOk.bits5 (fun HT_ HW_ => ?_); generalize wr.drew = w18 at BK418 HB hx423_0 hx423_1 hx423_2 hx424_0 hx424_1 hHeld ⊢; refine pure_ (i := 0) (N := some 22) (v := ?_) (a' := ?_) (bm_ 16 1) rfl rfl (any_of HT_.out u23_) (fun _ _ _ h => h) (Or.inl ⟨u82_, ?_⟩) ?_ ?_; rotate_left
         ·exact u22_
         rotate_left
         ·exact u0_
         refine pure_ (i := 1) (N := some 23) (v := ?_) (a' := ?_) (bm_ 16 3) rfl rfl (any_of HT_.out u23_) (fun _ _ _ h => h) (Or.inl ⟨u82_, ?_⟩) ?_ ?_; rotate_left
         ·exact u22_
         rotate_left
         ·exact u0_
         refine pure_ (i := 2) (N := some 24) (v := ?_) (a' := ?_) (bm_ 16 7) rfl rfl (any_of HT_.out u23_) (fun _ _ _ h => h) (Or.inl ⟨u82_, ?_⟩) ?_ ?_; rotate_left
         ·exact u22_
         rotate_left
         ·exact u0_
         refine pure_ (i := 3) (N := some 25) (v := ?_) (a' := ?_) (bm_ 16 15) rfl rfl (any_of HT_.out u23_) (fun _ _ _ h => h) (Or.inl ⟨u82_, ?_⟩) ?_ ?_; rotate_left
         ·exact u22_
         rotate_left
         ·exact u0_
         refine pure_ (i := 4) (N := some 26) (v := ?_) (a' := ?_) (bm_ 16 31) rfl rfl (any_of HT_.out u23_) (fun _ _ _ h => h) (Or.inl ⟨u82_, ?_⟩) ?_ ?_; rotate_left
         ·exact u22_
         rotate_left
         ·exact u0_
         refine pure_ (i := 5) (N := some 27) (v := ?_) (a' := ?_) (bm_ 16 63) rfl rfl (any_of HT_.out u23_) (fun _ _ _ h => h) (Or.inl ⟨u82_, ?_⟩) ?_ ?_; rotate_left
         ·exact u22_
         rotate_left
         ·exact u0_
         refine pure_ (i := 7) (N := some 29) (v := ?_) (a' := ?_) (bm_ 16 191) rfl rfl (any_of HT_.out u23_) (fun _ _ _ h => h) (Or.inl ⟨u82_, ?_⟩) ?_ ?_; rotate_left
         ·exact u22_
         rotate_left
         ·exact u0_
         refine pure_ (i := 9) (N := some 31) (v := ?_) (a' := ?_) (bm_ 16 703) rfl rfl (any_of HT_.out u23_) (fun _ _ _ h => h) (Or.inl ⟨u82_, ?_⟩) ?_ ?_; rotate_left
         ·exact u22_
         rotate_left
         ·exact u0_
         refine take_ (i := 6) (N := some 28) (v := ?_) (a' := ?_) (bm_ 16 767) rfl rfl (take_ofW HT_.out HW_.out u23_) (fun _ _ _ h => h) (Or.inl ⟨u82_, ?_⟩) hHeld ?_ ?_; rotate_left
         ·exact u150_
         rotate_left
         ·exact u0_
         refine take_ (i := 8) (N := some 30) (v := ?_) (a' := ?_) (bm_ 16 1023) rfl rfl (take_ofW HT_.out HW_.out u23_) (fun _ _ _ h => h) (Or.inl ⟨u82_, ?_⟩) hHeld ?_ ?_; rotate_left
         ·exact u150_
         rotate_left
         ·exact u0_
         refine pure_ (i := 10) (N := some 32) (v := ?_) (a' := ?_) (bm_ 16 2047) rfl rfl (any_of HT_.out u23_) (fun _ _ _ h => h) (Or.inl ⟨u82_, ?_⟩) ?_ ?_; rotate_left
         ·exact u22_
         rotate_left
         ·exact u0_
         refine pure_ (i := 11) (N := some 33) (v := ?_) (a' := ?_) (bm_ 16 4095) rfl rfl (any_of HT_.out u23_) (fun _ _ _ h => h) (Or.inl ⟨u82_, ?_⟩) ?_ ?_; rotate_left
         ·exact u22_
         rotate_left
         ·exact u0_
         refine take_ (i := 12) (N := some 34) (v := ?_) (a' := ?_) (bm_ 16 8191) rfl rfl (take_ofW HT_.out HW_.out u23_) (fun _ _ _ h => h) (Or.inl ⟨u82_, ?_⟩) hHeld ?_ ?_; rotate_left
         ·exact u150_
         rotate_left
         ·exact u0_
         refine one_ (i := 13) (N := some 35) (bm_ 16 16383) rfl rfl (one_of HT_.out u23_) u52_ (fun K hK => ?_); refine goes_ Tryd.func64 u23_ rfl #[.agg #[.string ((rd_T75 l0 t422).f0), .int .i64 ((rd_T75 l0 t422).f1), .int .i64 ((rd_T75 l0 t422).f2)], .string ((rd_T46 l1_1 x5_1).f1)] u82_ rfl rfl u1_ ?_; with_reducible refine (spec_l2Cell.calls k1 ((rd_T75 l0 t422).f0) ((rd_T75 l0 t422).f1) ((rd_T75 l0 t422).f2) ((rd_T46 l1_1 x5_1).f1) false _ A12.out).mono ?_
         rintro e w19 ⟨rfl, hb⟩; refine ⟨_, rfl, ?_⟩; replace BK418 := am_ (blk_below (g := gb418) (o := .cells #[.string a1_0, .slice (some ad421) l1_1.length c1_1] 41 (0, 0)) u83_ hb); replace HB := am_ (below_step u56_ hb); (try clear hb)
         (try clear hb2)
         (try clear hk)
         (try clear hi)
         refine hK.out _ _ ⟨(blk_cell BK418.out 0).trans rfl, (blk_cell BK418.out 1).trans rfl, ((HB.out.cell (World.block_lt_of_cell? w _ hw423_0)).trans hw423_0), ((HB.out.cell (World.block_lt_of_cell? w _ hw423_1)).trans hw423_1), ((HB.out.cell (World.block_lt_of_cell? w _ hw423_2)).trans hw423_2), ((HB.out.cell (World.block_lt_of_cell? w _ hw424_0)).trans hw424_0), ((HB.out.cell (World.block_lt_of_cell? w _ hw424_1)).trans hw424_1)⟩ (fun hHeld => ?_); clear hK K; refine norm_ (a' := ?_) ?_ ?_; rotate_left
         ·show Act.put _ (some 35) _ = _
          simp only [Act.put, List.setIfInBounds_toArray, List.set_cons_zero, List.set_cons_succ, i64_w, i32_w]; rfl
         refine pure_ (i := 14) (N := some 36) (v := ?_) (a' := ?_) (bm_ 16 32767) rfl rfl (any_of HT_.out u23_) (fun _ _ _ h => h) (Or.inl ⟨u82_, ?_⟩) ?_ ?_; rotate_left
         ·exact u22_
         rotate_left
         ·exact u0_
         refine pure_ (i := 15) (N := some 37) (v := ?_) (a' := ?_) (bm_ 16 65535) rfl rfl (any_of HT_.out u23_) (fun _ _ _ h => h) (Or.inl ⟨u82_, ?_⟩) ?_ ?_; rotate_left
         ·exact u22_
         rotate_left
         ·exact u0_
         refine done_ (done_of HT_.out u23_) ?_; try go_wp2
         go_ret
         exact ⟨u6_, u56_⟩
       ·exact u243_
      ·exact u247_
    ·exact u235_
   ·rw [if_neg c4] at H; have c4b0 : decide (x5_1 < (l1_1.length : Int)) = false := decide_eq_false c4; clear c4; replace H := Option.bind_eq_some_iff.mp H; obtain ⟨t419, A200, H⟩ := H; replace H : (if t419 = true then ((spec_l2Form.f k1 a1_0 l1_1).bind fun t420 => (some t420)) else (some false)) = some r := H; have A20 := am_ A200; clear A200; by_cases c21 : t419 = true
    ·subst c21; rw [if_pos rfl] at H; replace H := Option.bind_eq_some_iff.mp H; obtain ⟨t420, A220, H⟩ := H; replace H : (some t420) = some r := H; have A22 := am_ A220; clear A220; obtain rfl := Option.some.inj H; have hcz23_0 : wr.cell? ⟨gb418, 0, none⟩ = some (.string a1_0) := (blk_cell BK418.out 0).trans rfl; have hcz23_1 : wr.cell? ⟨gb418, 1, none⟩ = some (.slice A1_1 l1_1.length c1_1) := (blk_cell BK418.out 1).trans rfl; have hfz23_0 := blk_frozen BK418.out 0; have hfz23_1 := blk_frozen BK418.out 1; go_wp2_with (first | ((with_reducible refine gate_callee (f := 32) rfl ?_); refine goesL_ (some 39) rfl rfl Tryd.func32 u23_ rfl #[.slice A0 l0.length c0] rfl u1_ ?_; (with_reducible refine (spec_FieldsOk.calls k1 _ _ l0 true _ ?side1 ?side2 A20.out).mono ?_); (case side1 => exact u88_); (case side2 => exact u191_); rintro e w24 ⟨rfl, hb⟩; refine ⟨_, rfl, ?_⟩; replace BK418 := am_ (blk_below (g := gb418) (o := .cells #[.string a1_0, .slice A1_1 l1_1.length c1_1] 41 (0, 0)) u83_ hb); replace HB := am_ (below_step u56_ hb); (try clear hb); (try clear hb2); (try clear hk); (try clear hi); have hcz25_0 : w24.cell? ⟨gb418, 0, none⟩ = some (.string a1_0) := (blk_cell BK418.out 0).trans rfl; have hcz25_1 : w24.cell? ⟨gb418, 1, none⟩ = some (.slice A1_1 l1_1.length c1_1) := (blk_cell BK418.out 1).trans rfl; have hfz25_0 := blk_frozen BK418.out 0; have hfz25_1 := blk_frozen BK418.out 1) | (go_at_call 65; (with_reducible refine (spec_l2Form.calls k1 a1_0 _ _ l1_1 t420 _ ?side1 ?side2 A22.out).mono ?_); (case side1 => exact u172_); (case side2 => exact HC1_1.out); rintro e w26 ⟨rfl, hb⟩; replace BK418 := am_ (blk_below (g := gb418) (o := .cells #[.string a1_0, .slice A1_1 l1_1.length c1_1] 41 (0, 0)) u83_ hb); replace HB := am_ (below_step u56_ hb); (try clear hb); (try clear hb2); (try clear hk); (try clear hi)))
     go_ret
     exact ⟨u6_, u56_⟩
    ·replace c21 := Bool.eq_false_iff.mpr c21; subst c21; rw [if_neg (show ¬ (false = true) by decide)] at H; obtain rfl := Option.some.inj H; have hcz27_0 : wr.cell? ⟨gb418, 0, none⟩ = some (.string a1_0) := (blk_cell BK418.out 0).trans rfl; have hcz27_1 : wr.cell? ⟨gb418, 1, none⟩ = some (.slice A1_1 l1_1.length c1_1) := (blk_cell BK418.out 1).trans rfl; have hfz27_0 := blk_frozen BK418.out 0; have hfz27_1 := blk_frozen BK418.out 1; go_wp2_with (first | ((with_reducible refine gate_callee (f := 32) rfl ?_); refine goesL_ (some 39) rfl rfl Tryd.func32 u23_ rfl #[.slice A0 l0.length c0] rfl u1_ ?_; (with_reducible refine (spec_FieldsOk.calls k1 _ _ l0 false _ ?side1 ?side2 A20.out).mono ?_); (case side1 => exact u88_); (case side2 => exact u191_); rintro e w28 ⟨rfl, hb⟩; refine ⟨_, rfl, ?_⟩; replace BK418 := am_ (blk_below (g := gb418) (o := .cells #[.string a1_0, .slice A1_1 l1_1.length c1_1] 41 (0, 0)) u83_ hb); replace HB := am_ (below_step u56_ hb); (try clear hb); (try clear hb2); (try clear hk); (try clear hi)))
     go_ret
     exact ⟨u6_, u56_⟩

end Go.Proofs.YtelcdhjdlgedeaaDoor.PFnDocOk
