/- Contracts of Go functions that the law FnExactDocTags reaches: each is told as a plain Lean function, with the walk that shows it; no condition beyond what each states. Written by a program of this session round the kit's printer. -/
import Derived.Test.YtelcdhjdlgedeaaGreatDoorVPFnExactDocTagsx0
import Derived.Test.YtelcdhjdlgedeaaGreatDoorVPFnExactDocTagsx1
import Derived.Test.YtelcdhjdlgedeaaGreatDoorVPFnExactDocTagsx2
import Derived.Test.YtelcdhjdlgedeaaGreatDoorVPFnExactDocTagsx4
import Derived.Test.YtelcdhjdlgedeaaGreatDoorVPFnExactDocTagsx5
namespace Go.Proofs.YtelcdhjdlgedeaaGreatDoor.PFnExactDocTags
open Go.RowKit Go.Proofs.YtelcdhjdlgedeaaGreatDoorW.PrintWords Go.Proofs.YtelcdhjdlgedeaaGreatDoorW.PrintLast Go.Proofs.YtelcdhjdlgedeaaGreatDoorW.PrintMore
attribute [local go_sem] run_str_geq run_str_leq max2_int min2_int max_two min_two max_three min_three max_four min_four   -- for this text's walks alone
set_option linter.unusedVariables false
set_option linter.unusedSimpArgs false

/-! ### spec_DocOk: function 39 -/
def spec_DocOk.l0 : Nat → List (S79) → Int → ByteArray → List (S96) → Option (Bool)
 | 0, _, _, _, _ => none
 | k + 1, x0, x5, x217000, x217001 => if x5 < (x217001.length : Int) then (if 0 ≤ x5 then ((spec_l2Field.f k x0 ((rd_T96 x217001 x5).f0)).bind fun t220 => (if t220 < 0 then (some false) else (if 0 ≤ t220 then (if t220 < (x0.length : Int) then ((spec_l2Cell.f k ((rd_T79 x0 t220).f0) ((rd_T79 x0 t220).f1) ((rd_T79 x0 t220).f2) ((rd_T96 x217001 x5).f1)).bind fun t223 => (if t223 = true then (spec_DocOk.l0 k x0 (wrap64 (x5 + 1)) x217000 x217001) else (some false))) else (none)) else (none)))) else (none)) else ((spec_FieldsOk.f k x0).bind fun t217 => (if t217 = true then ((spec_l2Form.f k x217000 x217001).bind fun t218 => (some t218)) else (some false)))
def spec_DocOk.f (k : Nat) (l0 : List (S79)) (a1_0 : ByteArray) (l1_1 : List (S96)) : Option (Bool) := spec_DocOk.l0 k l0 0 a1_0 l1_1
theorem spec_DocOk.mono_l : ∀ k, (∀ y0 y1 y2 y3, LeO (spec_DocOk.l0 k y0 y1 y2 y3) (spec_DocOk.l0 (k + 1) y0 y1 y2 y3))
 | 0 => fun _ _ _ _ r h => by simp [spec_DocOk.l0] at h
 | k + 1 => by
  have ih0 := spec_DocOk.mono_l k
  ·intro y0 y1 y2 y3; unfold spec_DocOk.l0
   repeat' first
   | (with_reducible exact ih0 _ _ _ _)
   | (with_reducible exact spec_FieldsOk.mono _ _)
   | (with_reducible exact spec_l2Cell.mono _ _ _ _ _)
   | (with_reducible exact spec_l2Field.mono _ _ _)
   | (with_reducible exact spec_l2Form.mono _ _ _)
   | (with_reducible exact LeO.refl _)
   | (with_reducible exact LeO.none _)
   | (with_reducible refine LeO.ite ?_ ?_)
   | (with_reducible refine LeO.bind ?_ (fun _ => ?_))
   | exact ih0 _ _ _ _
   | exact spec_FieldsOk.mono _ _
   | exact spec_l2Cell.mono _ _ _ _ _
   | exact spec_l2Field.mono _ _ _
   | exact spec_l2Form.mono _ _ _
   | exact LeO.none _
   | refine LeO.ite ?_ ?_
   | refine LeO.bind ?_ (fun _ => ?_)
theorem spec_DocOk.mono : ∀ a0 a1 a2 k, LeO (spec_DocOk.f k a0 a1 a2) (spec_DocOk.f (k + 1) a0 a1 a2) := by
 intro a0 a1 a2 k; have ih0 := spec_DocOk.mono_l k; unfold spec_DocOk.f
 repeat' first
   | (with_reducible exact ih0 _ _ _ _)
   | (with_reducible exact spec_FieldsOk.mono _ _)
   | (with_reducible exact spec_l2Cell.mono _ _ _ _ _)
   | (with_reducible exact spec_l2Field.mono _ _ _)
   | (with_reducible exact spec_l2Form.mono _ _ _)
   | (with_reducible exact LeO.refl _)
   | (with_reducible exact LeO.none _)
   | (with_reducible refine LeO.ite ?_ ?_)
   | (with_reducible refine LeO.bind ?_ (fun _ => ?_))
   | exact ih0 _ _ _ _
   | exact spec_FieldsOk.mono _ _
   | exact spec_l2Cell.mono _ _ _ _ _
   | exact spec_l2Field.mono _ _ _
   | exact spec_l2Form.mono _ _ _
   | exact LeO.none _
   | refine LeO.ite ?_ ?_
   | refine LeO.bind ?_ (fun _ => ?_)
def spec_DocOk.T5 : Bool × List (List Nat × List Nat) := (true, [([], []), ([0], [0]), ([1], [1]), ([2], [2]), ([2], [2]), ([3, 4, 2], [2, 3, 4]), ([5, 2], [2, 5]), ([2], [2]), ([7, 2], [2, 7]), ([2], [2]), ([8, 9, 2], [2, 8, 9]), ([10, 2], [2, 10]), ([11, 2], [2, 11]), ([6, 12, 2, 2], [2, 6, 12]), ([13, 2], [2, 13]), ([2, 14], [2, 14])])
def spec_DocOk.B5 : List Nat := [0, 1, 3, 7, 7, 31, 63, 7, 135, 7, 903, 1927, 3975, 8191, 16383, 32767]
theorem spec_DocOk.tab5 : rtab .any (opsOf Tryz.f39 5) = spec_DocOk.T5 := by kernel_rfl
theorem spec_DocOk.bits5 : waitsOk spec_DocOk.T5.2 spec_DocOk.B5 = true := by kernel_rfl
set_option maxHeartbeats 8000000 in
set_option maxRecDepth 100000 in
theorem spec_DocOk.calls (k : Nat) (A0 : Option Addr) (c0 : Nat) (l0 : List (S79)) (a1_0 : ByteArray) (A1_1 : Option Addr) (c1_1 : Nat) (l1_1 : List (S96)) (r : Bool) (w : World) (hr0 : Kd.C k79 w A0 l0.length l0) (hc0 : l0.length ≤ c0) (hr1_1 : Kd.C k96 w A1_1 l1_1.length l1_1) (hc1_1 : l1_1.length ≤ c1_1) (h : spec_DocOk.f k l0 a1_0 l1_1 = some r) :
  Calls Tryz.prog 39 #[.slice A0 l0.length c0, .agg #[.string a1_0, .slice A1_1 l1_1.length c1_1]] w fun e w' => e = .returned (.bool r) ∧ Below w.heap.size w w' := by
 have hu45 := Tryz.underlying45; have hu79 := Tryz.underlying79; have HR0 := am_ hr0; have HC0 := am_ hc0; clear hr0 hc0; have HR1_1 := am_ hr1_1; have HC1_1 := am_ hc1_1; clear hr1_1 hc1_1; have HB := am_ (Below.refl w.heap.size w); have H : (spec_DocOk.l0 k l0 0 a1_0 l1_1) = some r := h; clear h; have H' := am_ H; clear H; go_enter Tryz.func39, Tryz.ntmps39
 go_wp2_with (first | ((with_reducible refine gate_dst (N := 3) rfl ?_); refine box_event ?hg (N := 3) ?hd (cs := #[.string a1_0, .slice A1_1 l1_1.length c1_1]) (t := 45) ?hr ?_; (case hd => rfl); (case hg => rfl); (case hr => first | (go_simp; done) | (go_simp; rfl)); intro gb216 hg w3 hbox hb; have BK216 := am_ (hbox); have GW216 := am_ ((by rw [hg]; exact (below_size u0_) : w.heap.size ≤ gb216)); have GE216 := GW216; replace HB := am_ (below_step u0_ hb); clear hb hbox hg))
 go_loopg [5] k (fun kq v5 w' => ∃ (x5_1 : Int), v5 = .int .i64 x5_1 ∧ Aside0 (spec_DocOk.l0 kq l0 x5_1 a1_0 l1_1 = some r) ∧ Aside0 (kq ≤ k) ∧ Aside0 (w'.heap[gb216]? = some (.cells #[.string a1_0, (.slice A1_1 l1_1.length c1_1)] 45 (0, 0))) ∧ Aside0 (Below w.heap.size w w'))
 case atStart => exact ⟨(0), u15_, H', ⟨Nat.le_refl _⟩, ⟨u52_⟩, ⟨u31_⟩⟩
 case round =>
  clear H'; try clear c1
  try clear p2
  try clear c3
  obtain ⟨x5_1, rfl, HA, HK1, BK216, HB⟩ := hrel; cases gk with
  | zero => exact absurd HA.out (by simp [spec_DocOk.l0])
  | succ k1 =>
   have H := HA.out; clear HA; simp only [spec_DocOk.l0] at H; by_cases c4 : x5_1 < (l1_1.length : Int)
   ·rw [if_pos c4] at H; have c4b0 : decide (x5_1 < (l1_1.length : Int)) = true := decide_eq_true c4; clear c4; by_cases c5 : 0 ≤ x5_1
    ·rw [if_pos c5] at H; have c5b0 : decide (0 ≤ x5_1) = true := decide_eq_true c5; clear c5; replace H := Option.bind_eq_some_iff.mp H; obtain ⟨t220, A60, H⟩ := H; replace H : (if t220 < 0 then (some false) else (if 0 ≤ t220 then (if t220 < (l0.length : Int) then ((spec_l2Cell.f k1 ((rd_T79 l0 t220).f0) ((rd_T79 l0 t220).f1) ((rd_T79 l0 t220).f2) ((rd_T96 l1_1 x5_1).f1)).bind fun t223 => (if t223 = true then (spec_DocOk.l0 k1 l0 (wrap64 (x5_1 + 1)) a1_0 l1_1) else (some false))) else (none)) else (none))) = some r := H; have A6 := am_ A60; clear A60; by_cases c7 : t220 < 0
     ·rw [if_pos c7] at H; have c7b0 : decide (t220 < 0) = true := decide_eq_true c7; clear c7; obtain rfl := Option.some.inj H; have hcz8_0 : wr.cell? ⟨gb216, 0, none⟩ = some (.string a1_0) := (blk_cell BK216.out 0).trans rfl; have hcz8_1 : wr.cell? ⟨gb216, 1, none⟩ = some (.slice A1_1 l1_1.length c1_1) := (blk_cell BK216.out 1).trans rfl; have hfz8_0 := blk_frozen BK216.out 0; have hfz8_1 := blk_frozen BK216.out 1; have p219 : 0 ≤ (x5_1 : Int) := of_decide_eq_true u4_; have q219 : x5_1 < (l1_1.length : Int) := of_decide_eq_true u4_; obtain ⟨ad219, e219, hx219_0, hx219_1⟩ := at_T96 HR1_1.out x5_1 p219 q219; cases e219; replace hx219_0 := (HB.out.cell (World.block_lt_of_cell? w _ hx219_0)).trans hx219_0; replace hx219_1 := (HB.out.cell (World.block_lt_of_cell? w _ hx219_1)).trans hx219_1; replace p219 := eq_true p219; replace q219 := eq_true q219; try go_wp2_with (first | ((with_reducible refine gate_callee (f := 57) rfl ?_); refine goesL_ (some 21) rfl rfl Tryz.func57 u8_ rfl #[.slice A0 l0.length c0, .string ((rd_T96 l1_1 x5_1).f0)] rfl u2_ ?_; (with_reducible refine (spec_l2Field.calls k1 _ _ l0 ((rd_T96 l1_1 x5_1).f0) t220 _ ?side1 ?side2 A6.out).mono ?_); (case side1 => repeat (first | exact (Kd.C_below HR0.out HB.out) | (with_reducible refine Kd.C_alloc ?_ _) | (with_reducible refine Kd.C_drewN ?_ _) | (with_reducible refine Kd.C_drew ?_))); (case side2 => exact HC0.out); rintro e w' ⟨rfl, ⟨nd, rfl⟩⟩; refine ⟨_, rfl, ?_⟩))
      (try (rw [drewN_self wr]; generalize hq_ : World.drewN wr _ = wr; have n0_ : Aside0 (wr.heap[gb216]? = some (.cells #[.string a1_0, .slice (some ad219) l1_1.length c1_1] 45 (0, 0))) := ⟨by rw [← hq_]; exact u52_⟩; have n1_ : Aside0 (Below w.heap.size w wr) := ⟨by rw [← hq_]; exact u31_⟩; clear BK216 HB hq_; have BK216 := n0_; have HB := n1_; clear n0_ n1_))
      replace BK216 := am_ (blk_drew BK216.out); replace HB := am_ (below_drew1 HB.out); refine start_ (n := 16) (S := fun w' => True) (ds := []) #[f_, f_, f_, f_, f_, f_, f_, f_, f_, f_, f_, f_, f_, f_, f_, f_] u8_ rfl rfl trivial (fun hHeld => ?_); refine with_tabW spec_DocOk.tab5 spec_DocOk.bits5 (fun HT_ HW_ => ?_); generalize wr.drew = w9 at BK216 HB hHeld ⊢; refine pure_ (i := 0) (N := some 22) (v := ?_) (a' := ?_) #[t_, f_, f_, f_, f_, f_, f_, f_, f_, f_, f_, f_, f_, f_, f_, f_] rfl rfl (any_of HT_.out u8_) (fun _ _ _ h => h) (Or.inl ⟨u45_, ?_⟩) ?_ ?_; rotate_left
      ·exact u9_
      rotate_left
      ·exact u1_
      refine pure_ (i := 1) (N := some 23) (v := ?_) (a' := ?_) #[t_, t_, f_, f_, f_, f_, f_, f_, f_, f_, f_, f_, f_, f_, f_, f_] rfl rfl (any_of HT_.out u8_) (fun _ _ _ h => h) (Or.inl ⟨u45_, ?_⟩) ?_ ?_; rotate_left
      ·exact u9_
      rotate_left
      ·exact u1_
      refine pure_ (i := 2) (N := some 24) (v := ?_) (a' := ?_) #[t_, t_, t_, f_, f_, f_, f_, f_, f_, f_, f_, f_, f_, f_, f_, f_] rfl rfl (any_of HT_.out u8_) (fun _ _ _ h => h) (Or.inl ⟨u45_, ?_⟩) ?_ ?_; rotate_left
      ·exact u9_
      rotate_left
      ·exact u1_
      refine pure_ (i := 3) (N := some 25) (v := undef) (a' := ?_) #[t_, t_, t_, t_, f_, f_, f_, f_, f_, f_, f_, f_, f_, f_, f_, f_] rfl rfl (any_of HT_.out u8_) (fun _ _ _ h => h) (Or.inr ⟨u45_, rfl⟩) ?_ ?_; rotate_left
      ·exact u1_
      refine pure_ (i := 4) (N := some 26) (v := undef) (a' := ?_) #[t_, t_, t_, t_, t_, f_, f_, f_, f_, f_, f_, f_, f_, f_, f_, f_] rfl rfl (any_of HT_.out u8_) (fun _ _ _ h => h) (Or.inr ⟨u45_, rfl⟩) ?_ ?_; rotate_left
      ·exact u1_
      refine pure_ (i := 5) (N := some 27) (v := undef) (a' := ?_) #[t_, t_, t_, t_, t_, t_, f_, f_, f_, f_, f_, f_, f_, f_, f_, f_] rfl rfl (any_of HT_.out u8_) (fun _ _ _ h => h) (Or.inr ⟨u45_, rfl⟩) ?_ ?_; rotate_left
      ·exact u1_
      refine pure_ (i := 6) (N := some 28) (v := undef) (a' := ?_) #[t_, t_, t_, t_, t_, t_, t_, f_, f_, f_, f_, f_, f_, f_, f_, f_] rfl rfl (any_of HT_.out u8_) (fun _ _ _ h => h) (Or.inr ⟨u45_, rfl⟩) ?_ ?_; rotate_left
      ·exact u1_
      refine pure_ (i := 7) (N := some 29) (v := undef) (a' := ?_) #[t_, t_, t_, t_, t_, t_, t_, t_, f_, f_, f_, f_, f_, f_, f_, f_] rfl rfl (any_of HT_.out u8_) (fun _ _ _ h => h) (Or.inr ⟨u45_, rfl⟩) ?_ ?_; rotate_left
      ·exact u1_
      refine pure_ (i := 8) (N := some 30) (v := undef) (a' := ?_) #[t_, t_, t_, t_, t_, t_, t_, t_, t_, f_, f_, f_, f_, f_, f_, f_] rfl rfl (any_of HT_.out u8_) (fun _ _ _ h => h) (Or.inr ⟨u45_, rfl⟩) ?_ ?_; rotate_left
      ·exact u1_
      refine pure_ (i := 9) (N := some 31) (v := undef) (a' := ?_) #[t_, t_, t_, t_, t_, t_, t_, t_, t_, t_, f_, f_, f_, f_, f_, f_] rfl rfl (any_of HT_.out u8_) (fun _ _ _ h => h) (Or.inr ⟨u45_, rfl⟩) ?_ ?_; rotate_left
      ·exact u1_
      refine pure_ (i := 10) (N := some 32) (v := undef) (a' := ?_) #[t_, t_, t_, t_, t_, t_, t_, t_, t_, t_, t_, f_, f_, f_, f_, f_] rfl rfl (any_of HT_.out u8_) (fun _ _ _ h => h) (Or.inr ⟨u45_, rfl⟩) ?_ ?_; rotate_left
      ·exact u1_
      refine pure_ (i := 11) (N := some 33) (v := undef) (a' := ?_) #[t_, t_, t_, t_, t_, t_, t_, t_, t_, t_, t_, t_, f_, f_, f_, f_] rfl rfl (any_of HT_.out u8_) (fun _ _ _ h => h) (Or.inr ⟨u45_, rfl⟩) ?_ ?_; rotate_left
      ·exact u1_
      refine pure_ (i := 12) (N := some 34) (v := undef) (a' := ?_) #[t_, t_, t_, t_, t_, t_, t_, t_, t_, t_, t_, t_, t_, f_, f_, f_] rfl rfl (any_of HT_.out u8_) (fun _ _ _ h => h) (Or.inr ⟨u45_, rfl⟩) ?_ ?_; rotate_left
      ·exact u1_
      refine pure_ (i := 13) (N := some 35) (v := undef) (a' := ?_) #[t_, t_, t_, t_, t_, t_, t_, t_, t_, t_, t_, t_, t_, t_, f_, f_] rfl rfl (any_of HT_.out u8_) (fun _ _ _ h => h) (Or.inr ⟨u45_, rfl⟩) ?_ ?_; rotate_left
      ·exact u1_
      refine pure_ (i := 14) (N := some 36) (v := undef) (a' := ?_) #[t_, t_, t_, t_, t_, t_, t_, t_, t_, t_, t_, t_, t_, t_, t_, f_] rfl rfl (any_of HT_.out u8_) (fun _ _ _ h => h) (Or.inr ⟨u45_, rfl⟩) ?_ ?_; rotate_left
      ·exact u1_
      refine pure_ (i := 15) (N := some 37) (v := ?_) (a' := ?_) #[t_, t_, t_, t_, t_, t_, t_, t_, t_, t_, t_, t_, t_, t_, t_, t_] rfl rfl (any_of HT_.out u8_) (fun _ _ _ h => h) (Or.inl ⟨u45_, ?_⟩) ?_ ?_; rotate_left
      ·exact u9_
      rotate_left
      ·exact u1_
      refine done_ (done_of HT_.out u8_) ?_; try go_wp2
      go_ret
      exact ⟨u5_, u31_⟩
     ·rw [if_neg c7] at H; have c7b0 : decide (t220 < 0) = false := decide_eq_false c7; clear c7; by_cases c10 : 0 ≤ t220
      ·rw [if_pos c10] at H; have c10b0 : decide (0 ≤ t220) = true := decide_eq_true c10; clear c10; by_cases c11 : t220 < (l0.length : Int)
       ·rw [if_pos c11] at H; have c11b0 : decide (t220 < (l0.length : Int)) = true := decide_eq_true c11; clear c11; replace H := Option.bind_eq_some_iff.mp H; obtain ⟨t223, A120, H⟩ := H; replace H : (if t223 = true then (spec_DocOk.l0 k1 l0 (wrap64 (x5_1 + 1)) a1_0 l1_1) else (some false)) = some r := H; have A12 := am_ A120; clear A120; by_cases c13 : t223 = true
        ·subst c13; have H1 : (spec_DocOk.l0 k1 l0 (wrap64 (x5_1 + 1)) a1_0 l1_1) = some r := by rw [if_pos rfl] at H; exact H
         clear H; have H := H1; clear H1; have H' := am_ H; clear H; have hcz14_0 : wr.cell? ⟨gb216, 0, none⟩ = some (.string a1_0) := (blk_cell BK216.out 0).trans rfl; have hcz14_1 : wr.cell? ⟨gb216, 1, none⟩ = some (.slice A1_1 l1_1.length c1_1) := (blk_cell BK216.out 1).trans rfl; have hfz14_0 := blk_frozen BK216.out 0; have hfz14_1 := blk_frozen BK216.out 1; have p219 : 0 ≤ (x5_1 : Int) := of_decide_eq_true u4_; have q219 : x5_1 < (l1_1.length : Int) := of_decide_eq_true u4_; obtain ⟨ad219, e219, hx219_0, hx219_1⟩ := at_T96 HR1_1.out x5_1 p219 q219; cases e219; replace hx219_0 := (HB.out.cell (World.block_lt_of_cell? w _ hx219_0)).trans hx219_0; replace hx219_1 := (HB.out.cell (World.block_lt_of_cell? w _ hx219_1)).trans hx219_1; replace p219 := eq_true p219; replace q219 := eq_true q219; try go_wp2_with (first | ((with_reducible refine gate_callee (f := 57) rfl ?_); refine goesL_ (some 21) rfl rfl Tryz.func57 u8_ rfl #[.slice A0 l0.length c0, .string ((rd_T96 l1_1 x5_1).f0)] rfl u2_ ?_; (with_reducible refine (spec_l2Field.calls k1 _ _ l0 ((rd_T96 l1_1 x5_1).f0) t220 _ ?side1 ?side2 A6.out).mono ?_); (case side1 => repeat (first | exact (Kd.C_below HR0.out HB.out) | (with_reducible refine Kd.C_alloc ?_ _) | (with_reducible refine Kd.C_drewN ?_ _) | (with_reducible refine Kd.C_drew ?_))); (case side2 => exact HC0.out); rintro e w' ⟨rfl, ⟨nd, rfl⟩⟩; refine ⟨_, rfl, ?_⟩))
         (try (rw [drewN_self wr]; generalize hq_ : World.drewN wr _ = wr; have n0_ : Aside0 (wr.heap[gb216]? = some (.cells #[.string a1_0, .slice (some ad219) l1_1.length c1_1] 45 (0, 0))) := ⟨by rw [← hq_]; exact u52_⟩; have n1_ : Aside0 (Below w.heap.size w wr) := ⟨by rw [← hq_]; exact u31_⟩; clear BK216 HB hq_; have BK216 := n0_; have HB := n1_; clear n0_ n1_))
         replace BK216 := am_ (blk_drew BK216.out); replace HB := am_ (below_drew1 HB.out); have p221 : 0 ≤ (t220 : Int) := of_decide_eq_true u4_; have q221 : t220 < (l0.length : Int) := of_decide_eq_true u4_; obtain ⟨ad221, e221, hx221_0, hx221_1, hx221_2⟩ := at_T79 HR0.out t220 p221 q221; have hw221_2 := hx221_2; have hw221_1 := hx221_1; have hw221_0 := hx221_0; cases e221; replace hx221_0 := (HB.out.cell (World.block_lt_of_cell? w _ hx221_0)).trans hx221_0; replace hx221_1 := (HB.out.cell (World.block_lt_of_cell? w _ hx221_1)).trans hx221_1; replace hx221_2 := (HB.out.cell (World.block_lt_of_cell? w _ hx221_2)).trans hx221_2; replace p221 := eq_true p221; replace q221 := eq_true q221; have p222 : 0 ≤ (x5_1 : Int) := of_decide_eq_true u4_; have q222 : x5_1 < (l1_1.length : Int) := of_decide_eq_true u4_; obtain ⟨ad222, e222, hx222_0, hx222_1⟩ := at_T96 HR1_1.out x5_1 p222 q222; have hw222_1 := hx222_1; have hw222_0 := hx222_0; obtain rfl : ad219 = ad222 := (by injection e222); replace hx222_0 := (HB.out.cell (World.block_lt_of_cell? w _ hx222_0)).trans hx222_0; replace hx222_1 := (HB.out.cell (World.block_lt_of_cell? w _ hx222_1)).trans hx222_1; replace p222 := eq_true p222; replace q222 := eq_true q222; refine start_ (n := 16) (S := fun w' => w'.cell? ⟨gb216, 0, none⟩ = some (.string a1_0) ∧ w'.cell? ⟨gb216, 1, none⟩ = some (.slice (some ad219) l1_1.length c1_1) ∧ w'.cell? (ad221.add ((t220).toNat * 3)) = some (.string ((rd_T79 l0 t220).f0)) ∧ w'.cell? ⟨(ad221.add ((t220).toNat * 3)).block, (ad221.add ((t220).toNat * 3)).off + 1, none⟩ = some (.int .i64 ((rd_T79 l0 t220).f1)) ∧ w'.cell? ⟨(ad221.add ((t220).toNat * 3)).block, (ad221.add ((t220).toNat * 3)).off + 2, none⟩ = some (.int .i64 ((rd_T79 l0 t220).f2)) ∧ w'.cell? (ad219.add ((x5_1).toNat * 2)) = some (.string ((rd_T96 l1_1 x5_1).f0)) ∧ w'.cell? ⟨(ad219.add ((x5_1).toNat * 2)).block, (ad219.add ((x5_1).toNat * 2)).off + 1, none⟩ = some (.string ((rd_T96 l1_1 x5_1).f1))) (ds := []) #[f_, f_, f_, f_, f_, f_, f_, f_, f_, f_, f_, f_, f_, f_, f_, f_] u8_ rfl rfl ⟨(blk_cell BK216.out 0).trans rfl, (blk_cell BK216.out 1).trans rfl, ((HB.out.cell (World.block_lt_of_cell? w _ hw221_0)).trans hw221_0), ((HB.out.cell (World.block_lt_of_cell? w _ hw221_1)).trans hw221_1), ((HB.out.cell (World.block_lt_of_cell? w _ hw221_2)).trans hw221_2), ((HB.out.cell (World.block_lt_of_cell? w _ hw222_0)).trans hw222_0), ((HB.out.cell (World.block_lt_of_cell? w _ hw222_1)).trans hw222_1)⟩ (fun hHeld => ?_); refine with_tabW spec_DocOk.tab5 spec_DocOk.bits5 (fun HT_ HW_ => ?_); generalize wr.drew = w15 at BK216 HB hx221_0 hx221_1 hx221_2 hx222_0 hx222_1 hHeld ⊢; refine pure_ (i := 0) (N := some 22) (v := ?_) (a' := ?_) #[t_, f_, f_, f_, f_, f_, f_, f_, f_, f_, f_, f_, f_, f_, f_, f_] rfl rfl (any_of HT_.out u8_) (fun _ _ _ h => h) (Or.inl ⟨u45_, ?_⟩) ?_ ?_; rotate_left
         ·exact u9_
         rotate_left
         ·exact u1_
         refine pure_ (i := 1) (N := some 23) (v := ?_) (a' := ?_) #[t_, t_, f_, f_, f_, f_, f_, f_, f_, f_, f_, f_, f_, f_, f_, f_] rfl rfl (any_of HT_.out u8_) (fun _ _ _ h => h) (Or.inl ⟨u45_, ?_⟩) ?_ ?_; rotate_left
         ·exact u9_
         rotate_left
         ·exact u1_
         refine pure_ (i := 2) (N := some 24) (v := ?_) (a' := ?_) #[t_, t_, t_, f_, f_, f_, f_, f_, f_, f_, f_, f_, f_, f_, f_, f_] rfl rfl (any_of HT_.out u8_) (fun _ _ _ h => h) (Or.inl ⟨u45_, ?_⟩) ?_ ?_; rotate_left
         ·exact u9_
         rotate_left
         ·exact u1_
         refine pure_ (i := 3) (N := some 25) (v := ?_) (a' := ?_) #[t_, t_, t_, t_, f_, f_, f_, f_, f_, f_, f_, f_, f_, f_, f_, f_] rfl rfl (any_of HT_.out u8_) (fun _ _ _ h => h) (Or.inl ⟨u45_, ?_⟩) ?_ ?_; rotate_left
         ·exact u9_
         rotate_left
         ·exact u1_
         refine pure_ (i := 4) (N := some 26) (v := ?_) (a' := ?_) #[t_, t_, t_, t_, t_, f_, f_, f_, f_, f_, f_, f_, f_, f_, f_, f_] rfl rfl (any_of HT_.out u8_) (fun _ _ _ h => h) (Or.inl ⟨u45_, ?_⟩) ?_ ?_; rotate_left
         ·exact u9_
         rotate_left
         ·exact u1_
         refine pure_ (i := 5) (N := some 27) (v := ?_) (a' := ?_) #[t_, t_, t_, t_, t_, t_, f_, f_, f_, f_, f_, f_, f_, f_, f_, f_] rfl rfl (any_of HT_.out u8_) (fun _ _ _ h => h) (Or.inl ⟨u45_, ?_⟩) ?_ ?_; rotate_left
         ·exact u9_
         rotate_left
         ·exact u1_
         refine pure_ (i := 7) (N := some 29) (v := ?_) (a' := ?_) #[t_, t_, t_, t_, t_, t_, f_, t_, f_, f_, f_, f_, f_, f_, f_, f_] rfl rfl (any_of HT_.out u8_) (fun _ _ _ h => h) (Or.inl ⟨u45_, ?_⟩) ?_ ?_; rotate_left
         ·exact u9_
         rotate_left
         ·exact u1_
         refine pure_ (i := 9) (N := some 31) (v := ?_) (a' := ?_) #[t_, t_, t_, t_, t_, t_, f_, t_, f_, t_, f_, f_, f_, f_, f_, f_] rfl rfl (any_of HT_.out u8_) (fun _ _ _ h => h) (Or.inl ⟨u45_, ?_⟩) ?_ ?_; rotate_left
         ·exact u9_
         rotate_left
         ·exact u1_
         refine take_ (i := 6) (N := some 28) (v := ?_) (a' := ?_) #[t_, t_, t_, t_, t_, t_, t_, t_, f_, t_, f_, f_, f_, f_, f_, f_] rfl rfl (take_ofW HT_.out HW_.out u8_) (fun _ _ _ h => h) (Or.inl ⟨u45_, ?_⟩) hHeld ?_ ?_; rotate_left
         ·exact u98_
         rotate_left
         ·exact u1_
         refine take_ (i := 8) (N := some 30) (v := ?_) (a' := ?_) #[t_, t_, t_, t_, t_, t_, t_, t_, t_, t_, f_, f_, f_, f_, f_, f_] rfl rfl (take_ofW HT_.out HW_.out u8_) (fun _ _ _ h => h) (Or.inl ⟨u45_, ?_⟩) hHeld ?_ ?_; rotate_left
         ·exact u98_
         rotate_left
         ·exact u1_
         refine pure_ (i := 10) (N := some 32) (v := ?_) (a' := ?_) #[t_, t_, t_, t_, t_, t_, t_, t_, t_, t_, t_, f_, f_, f_, f_, f_] rfl rfl (any_of HT_.out u8_) (fun _ _ _ h => h) (Or.inl ⟨u45_, ?_⟩) ?_ ?_; rotate_left
         ·exact u9_
         rotate_left
         ·exact u1_
         refine pure_ (i := 11) (N := some 33) (v := ?_) (a' := ?_) #[t_, t_, t_, t_, t_, t_, t_, t_, t_, t_, t_, t_, f_, f_, f_, f_] rfl rfl (any_of HT_.out u8_) (fun _ _ _ h => h) (Or.inl ⟨u45_, ?_⟩) ?_ ?_; rotate_left
         ·exact u9_
         rotate_left
         ·exact u1_
         refine take_ (i := 12) (N := some 34) (v := ?_) (a' := ?_) #[t_, t_, t_, t_, t_, t_, t_, t_, t_, t_, t_, t_, t_, f_, f_, f_] rfl rfl (take_ofW HT_.out HW_.out u8_) (fun _ _ _ h => h) (Or.inl ⟨u45_, ?_⟩) hHeld ?_ ?_; rotate_left
         ·exact u98_
         rotate_left
         ·exact u1_
         refine one_ (i := 13) (N := some 35) #[t_, t_, t_, t_, t_, t_, t_, t_, t_, t_, t_, t_, t_, t_, f_, f_] rfl rfl (one_of HT_.out u8_) u57_ (fun K hK => ?_); refine goes_ Tryz.func73 u8_ rfl #[.agg #[.string ((rd_T79 l0 t220).f0), .int .i64 ((rd_T79 l0 t220).f1), .int .i64 ((rd_T79 l0 t220).f2)], .string ((rd_T96 l1_1 x5_1).f1)] u45_ rfl rfl u2_ ?_; with_reducible refine (spec_l2Cell.calls k1 ((rd_T79 l0 t220).f0) ((rd_T79 l0 t220).f1) ((rd_T79 l0 t220).f2) ((rd_T96 l1_1 x5_1).f1) true _ A12.out).mono ?_
         rintro e w16 ⟨rfl, hb⟩; refine ⟨_, rfl, ?_⟩; replace BK216 := am_ (blk_below (g := gb216) (o := .cells #[.string a1_0, .slice (some ad219) l1_1.length c1_1] 45 (0, 0)) u52_ hb); replace HB := am_ (below_step u31_ hb); (try clear hb)
         (try clear hb2)
         (try clear hk)
         (try clear hi)
         refine hK.out _ _ ⟨(blk_cell BK216.out 0).trans rfl, (blk_cell BK216.out 1).trans rfl, ((HB.out.cell (World.block_lt_of_cell? w _ hw221_0)).trans hw221_0), ((HB.out.cell (World.block_lt_of_cell? w _ hw221_1)).trans hw221_1), ((HB.out.cell (World.block_lt_of_cell? w _ hw221_2)).trans hw221_2), ((HB.out.cell (World.block_lt_of_cell? w _ hw222_0)).trans hw222_0), ((HB.out.cell (World.block_lt_of_cell? w _ hw222_1)).trans hw222_1)⟩ (fun hHeld => ?_); clear hK K; refine norm_ (a' := ?_) ?_ ?_; rotate_left
         ·show Act.put _ (some 35) _ = _
          simp only [Act.put, List.setIfInBounds_toArray, List.set_cons_zero, List.set_cons_succ, i64_w, i32_w]; rfl
         refine pure_ (i := 14) (N := some 36) (v := ?_) (a' := ?_) #[t_, t_, t_, t_, t_, t_, t_, t_, t_, t_, t_, t_, t_, t_, t_, f_] rfl rfl (any_of HT_.out u8_) (fun _ _ _ h => h) (Or.inl ⟨u45_, ?_⟩) ?_ ?_; rotate_left
         ·exact u9_
         rotate_left
         ·exact u1_
         refine pure_ (i := 15) (N := some 37) (v := ?_) (a' := ?_) #[t_, t_, t_, t_, t_, t_, t_, t_, t_, t_, t_, t_, t_, t_, t_, t_] rfl rfl (any_of HT_.out u8_) (fun _ _ _ h => h) (Or.inl ⟨u45_, ?_⟩) ?_ ?_; rotate_left
         ·exact u9_
         rotate_left
         ·exact u1_
         refine done_ (done_of HT_.out u8_) ?_; try go_wp2
         go_roundg k1
         case measure => have := HK1.out; omega
         case rel => exact ⟨(wrap64 (x5_1 + 1)), u15_, H', ⟨u70_⟩, ⟨u52_⟩, ⟨u31_⟩⟩
        ·replace c13 := Bool.eq_false_iff.mpr c13; subst c13; have H1 : (some false) = some r := by rw [if_neg (show ¬ (false = true) by decide)] at H; exact H
         clear H; have H := H1; clear H1; obtain rfl := Option.some.inj H; have hcz17_0 : wr.cell? ⟨gb216, 0, none⟩ = some (.string a1_0) := (blk_cell BK216.out 0).trans rfl; have hcz17_1 : wr.cell? ⟨gb216, 1, none⟩ = some (.slice A1_1 l1_1.length c1_1) := (blk_cell BK216.out 1).trans rfl; have hfz17_0 := blk_frozen BK216.out 0; have hfz17_1 := blk_frozen BK216.out 1; have p219 : 0 ≤ (x5_1 : Int) := of_decide_eq_true u4_; have q219 : x5_1 < (l1_1.length : Int) := of_decide_eq_true u4_; obtain ⟨ad219, e219, hx219_0, hx219_1⟩ := at_T96 HR1_1.out x5_1 p219 q219; cases e219; replace hx219_0 := (HB.out.cell (World.block_lt_of_cell? w _ hx219_0)).trans hx219_0; replace hx219_1 := (HB.out.cell (World.block_lt_of_cell? w _ hx219_1)).trans hx219_1; replace p219 := eq_true p219; replace q219 := eq_true q219; try go_wp2_with (first | ((with_reducible refine gate_callee (f := 57) rfl ?_); refine goesL_ (some 21) rfl rfl Tryz.func57 u8_ rfl #[.slice A0 l0.length c0, .string ((rd_T96 l1_1 x5_1).f0)] rfl u2_ ?_; (with_reducible refine (spec_l2Field.calls k1 _ _ l0 ((rd_T96 l1_1 x5_1).f0) t220 _ ?side1 ?side2 A6.out).mono ?_); (case side1 => repeat (first | exact (Kd.C_below HR0.out HB.out) | (with_reducible refine Kd.C_alloc ?_ _) | (with_reducible refine Kd.C_drewN ?_ _) | (with_reducible refine Kd.C_drew ?_))); (case side2 => exact HC0.out); rintro e w' ⟨rfl, ⟨nd, rfl⟩⟩; refine ⟨_, rfl, ?_⟩))
         (try (rw [drewN_self wr]; generalize hq_ : World.drewN wr _ = wr; have n0_ : Aside0 (wr.heap[gb216]? = some (.cells #[.string a1_0, .slice (some ad219) l1_1.length c1_1] 45 (0, 0))) := ⟨by rw [← hq_]; exact u52_⟩; have n1_ : Aside0 (Below w.heap.size w wr) := ⟨by rw [← hq_]; exact u31_⟩; clear BK216 HB hq_; have BK216 := n0_; have HB := n1_; clear n0_ n1_))
         replace BK216 := am_ (blk_drew BK216.out); replace HB := am_ (below_drew1 HB.out); have p221 : 0 ≤ (t220 : Int) := of_decide_eq_true u4_; have q221 : t220 < (l0.length : Int) := of_decide_eq_true u4_; obtain ⟨ad221, e221, hx221_0, hx221_1, hx221_2⟩ := at_T79 HR0.out t220 p221 q221; have hw221_2 := hx221_2; have hw221_1 := hx221_1; have hw221_0 := hx221_0; cases e221; replace hx221_0 := (HB.out.cell (World.block_lt_of_cell? w _ hx221_0)).trans hx221_0; replace hx221_1 := (HB.out.cell (World.block_lt_of_cell? w _ hx221_1)).trans hx221_1; replace hx221_2 := (HB.out.cell (World.block_lt_of_cell? w _ hx221_2)).trans hx221_2; replace p221 := eq_true p221; replace q221 := eq_true q221; have p222 : 0 ≤ (x5_1 : Int) := of_decide_eq_true u4_; have q222 : x5_1 < (l1_1.length : Int) := of_decide_eq_true u4_; obtain ⟨ad222, e222, hx222_0, hx222_1⟩ := at_T96 HR1_1.out x5_1 p222 q222; have hw222_1 := hx222_1; have hw222_0 := hx222_0; obtain rfl : ad219 = ad222 := (by injection e222); replace hx222_0 := (HB.out.cell (World.block_lt_of_cell? w _ hx222_0)).trans hx222_0; replace hx222_1 := (HB.out.cell (World.block_lt_of_cell? w _ hx222_1)).trans hx222_1; replace p222 := eq_true p222; replace q222 := eq_true q222; refine start_ (n := 16) (S := fun w' => w'.cell? ⟨gb216, 0, none⟩ = some (.string a1_0) ∧ w'.cell? ⟨gb216, 1, none⟩ = some (.slice (some ad219) l1_1.length c1_1) ∧ w'.cell? (ad221.add ((t220).toNat * 3)) = some (.string ((rd_T79 l0 t220).f0)) ∧ w'.cell? ⟨(ad221.add ((t220).toNat * 3)).block, (ad221.add ((t220).toNat * 3)).off + 1, none⟩ = some (.int .i64 ((rd_T79 l0 t220).f1)) ∧ w'.cell? ⟨(ad221.add ((t220).toNat * 3)).block, (ad221.add ((t220).toNat * 3)).off + 2, none⟩ = some (.int .i64 ((rd_T79 l0 t220).f2)) ∧ w'.cell? (ad219.add ((x5_1).toNat * 2)) = some (.string ((rd_T96 l1_1 x5_1).f0)) ∧ w'.cell? ⟨(ad219.add ((x5_1).toNat * 2)).block, (ad219.add ((x5_1).toNat * 2)).off + 1, none⟩ = some (.string ((rd_T96 l1_1 x5_1).f1))) (ds := []) #[f_, f_, f_, f_, f_, f_, f_, f_, f_, f_, f_, f_, f_, f_, f_, f_] u8_ rfl rfl ⟨(blk_cell BK216.out 0).trans rfl, (blk_cell BK216.out 1).trans rfl, ((HB.out.cell (World.block_lt_of_cell? w _ hw221_0)).trans hw221_0), ((HB.out.cell (World.block_lt_of_cell? w _ hw221_1)).trans hw221_1), ((HB.out.cell (World.block_lt_of_cell? w _ hw221_2)).trans hw221_2), ((HB.out.cell (World.block_lt_of_cell? w _ hw222_0)).trans hw222_0), ((HB.out.cell (World.block_lt_of_cell? w _ hw222_1)).trans hw222_1)⟩ (fun hHeld => ?_); refine with_tabW spec_DocOk.tab5 spec_DocOk.bits5 (fun HT_ HW_ => ?_); generalize wr.drew = w18 at BK216 HB hx221_0 hx221_1 hx221_2 hx222_0 hx222_1 hHeld ⊢; refine pure_ (i := 0) (N := some 22) (v := ?_) (a' := ?_) #[t_, f_, f_, f_, f_, f_, f_, f_, f_, f_, f_, f_, f_, f_, f_, f_] rfl rfl (any_of HT_.out u8_) (fun _ _ _ h => h) (Or.inl ⟨u45_, ?_⟩) ?_ ?_; rotate_left
         ·exact u9_
         rotate_left
         ·exact u1_
         refine pure_ (i := 1) (N := some 23) (v := ?_) (a' := ?_) #[t_, t_, f_, f_, f_, f_, f_, f_, f_, f_, f_, f_, f_, f_, f_, f_] rfl rfl (any_of HT_.out u8_) (fun _ _ _ h => h) (Or.inl ⟨u45_, ?_⟩) ?_ ?_; rotate_left
         ·exact u9_
         rotate_left
         ·exact u1_
         refine pure_ (i := 2) (N := some 24) (v := ?_) (a' := ?_) #[t_, t_, t_, f_, f_, f_, f_, f_, f_, f_, f_, f_, f_, f_, f_, f_] rfl rfl (any_of HT_.out u8_) (fun _ _ _ h => h) (Or.inl ⟨u45_, ?_⟩) ?_ ?_; rotate_left
         ·exact u9_
         rotate_left
         ·exact u1_
         refine pure_ (i := 3) (N := some 25) (v := ?_) (a' := ?_) #[t_, t_, t_, t_, f_, f_, f_, f_, f_, f_, f_, f_, f_, f_, f_, f_] rfl rfl (any_of HT_.out u8_) (fun _ _ _ h => h) (Or.inl ⟨u45_, ?_⟩) ?_ ?_; rotate_left
         ·exact u9_
         rotate_left
         ·exact u1_
         refine pure_ (i := 4) (N := some 26) (v := ?_) (a' := ?_) #[t_, t_, t_, t_, t_, f_, f_, f_, f_, f_, f_, f_, f_, f_, f_, f_] rfl rfl (any_of HT_.out u8_) (fun _ _ _ h => h) (Or.inl ⟨u45_, ?_⟩) ?_ ?_; rotate_left
         ·exact u9_
         rotate_left
         ·exact u1_
         refine pure_ (i := 5) (N := some 27) (v := ?_) (a' := ?_) #[t_, t_, t_, t_, t_, t_, f_, f_, f_, f_, f_, f_, f_, f_, f_, f_] rfl rfl (any_of HT_.out u8_) (fun _ _ _ h => h) (Or.inl ⟨u45_, ?_⟩) ?_ ?_; rotate_left
         ·exact u9_
         rotate_left
         ·exact u1_
         refine pure_ (i := 7) (N := some 29) (v := ?_) (a' := ?_) #[t_, t_, t_, t_, t_, t_, f_, t_, f_, f_, f_, f_, f_, f_, f_, f_] rfl rfl (any_of HT_.out u8_) (fun _ _ _ h => h) (Or.inl ⟨u45_, ?_⟩) ?_ ?_; rotate_left
         ·exact u9_
         rotate_left
         ·exact u1_
         refine pure_ (i := 9) (N := some 31) (v := ?_) (a' := ?_) #[t_, t_, t_, t_, t_, t_, f_, t_, f_, t_, f_, f_, f_, f_, f_, f_] rfl rfl (any_of HT_.out u8_) (fun _ _ _ h => h) (Or.inl ⟨u45_, ?_⟩) ?_ ?_; rotate_left
         ·exact u9_
         rotate_left
         ·exact u1_
         refine take_ (i := 6) (N := some 28) (v := ?_) (a' := ?_) #[t_, t_, t_, t_, t_, t_, t_, t_, f_, t_, f_, f_, f_, f_, f_, f_] rfl rfl (take_ofW HT_.out HW_.out u8_) (fun _ _ _ h => h) (Or.inl ⟨u45_, ?_⟩) hHeld ?_ ?_; rotate_left
         ·exact u98_
         rotate_left
         ·exact u1_
         refine take_ (i := 8) (N := some 30) (v := ?_) (a' := ?_) #[t_, t_, t_, t_, t_, t_, t_, t_, t_, t_, f_, f_, f_, f_, f_, f_] rfl rfl (take_ofW HT_.out HW_.out u8_) (fun _ _ _ h => h) (Or.inl ⟨u45_, ?_⟩) hHeld ?_ ?_; rotate_left
         ·exact u98_
         rotate_left
         ·exact u1_
         refine pure_ (i := 10) (N := some 32) (v := ?_) (a' := ?_) #[t_, t_, t_, t_, t_, t_, t_, t_, t_, t_, t_, f_, f_, f_, f_, f_] rfl rfl (any_of HT_.out u8_) (fun _ _ _ h => h) (Or.inl ⟨u45_, ?_⟩) ?_ ?_; rotate_left
         ·exact u9_
         rotate_left
         ·exact u1_
         refine pure_ (i := 11) (N := some 33) (v := ?_) (a' := ?_) #[t_, t_, t_, t_, t_, t_, t_, t_, t_, t_, t_, t_, f_, f_, f_, f_] rfl rfl (any_of HT_.out u8_) (fun _ _ _ h => h) (Or.inl ⟨u45_, ?_⟩) ?_ ?_; rotate_left
         ·exact u9_
         rotate_left
         ·exact u1_
         refine take_ (i := 12) (N := some 34) (v := ?_) (a' := ?_) #[t_, t_, t_, t_, t_, t_, t_, t_, t_, t_, t_, t_, t_, f_, f_, f_] rfl rfl (take_ofW HT_.out HW_.out u8_) (fun _ _ _ h => h) (Or.inl ⟨u45_, ?_⟩) hHeld ?_ ?_; rotate_left
         ·exact u98_
         rotate_left
         ·exact u1_
         refine one_ (i := 13) (N := some 35) #[t_, t_, t_, t_, t_, t_, t_, t_, t_, t_, t_, t_, t_, t_, f_, f_] rfl rfl (one_of HT_.out u8_) u57_ (fun K hK => ?_); refine goes_ Tryz.func73 u8_ rfl #[.agg #[.string ((rd_T79 l0 t220).f0), .int .i64 ((rd_T79 l0 t220).f1), .int .i64 ((rd_T79 l0 t220).f2)], .string ((rd_T96 l1_1 x5_1).f1)] u45_ rfl rfl u2_ ?_; with_reducible refine (spec_l2Cell.calls k1 ((rd_T79 l0 t220).f0) ((rd_T79 l0 t220).f1) ((rd_T79 l0 t220).f2) ((rd_T96 l1_1 x5_1).f1) false _ A12.out).mono ?_
         rintro e w19 ⟨rfl, hb⟩; refine ⟨_, rfl, ?_⟩; replace BK216 := am_ (blk_below (g := gb216) (o := .cells #[.string a1_0, .slice (some ad219) l1_1.length c1_1] 45 (0, 0)) u52_ hb); replace HB := am_ (below_step u31_ hb); (try clear hb)
         (try clear hb2)
         (try clear hk)
         (try clear hi)
         refine hK.out _ _ ⟨(blk_cell BK216.out 0).trans rfl, (blk_cell BK216.out 1).trans rfl, ((HB.out.cell (World.block_lt_of_cell? w _ hw221_0)).trans hw221_0), ((HB.out.cell (World.block_lt_of_cell? w _ hw221_1)).trans hw221_1), ((HB.out.cell (World.block_lt_of_cell? w _ hw221_2)).trans hw221_2), ((HB.out.cell (World.block_lt_of_cell? w _ hw222_0)).trans hw222_0), ((HB.out.cell (World.block_lt_of_cell? w _ hw222_1)).trans hw222_1)⟩ (fun hHeld => ?_); clear hK K; refine norm_ (a' := ?_) ?_ ?_; rotate_left
         ·show Act.put _ (some 35) _ = _
          simp only [Act.put, List.setIfInBounds_toArray, List.set_cons_zero, List.set_cons_succ, i64_w, i32_w]; rfl
         refine pure_ (i := 14) (N := some 36) (v := ?_) (a' := ?_) #[t_, t_, t_, t_, t_, t_, t_, t_, t_, t_, t_, t_, t_, t_, t_, f_] rfl rfl (any_of HT_.out u8_) (fun _ _ _ h => h) (Or.inl ⟨u45_, ?_⟩) ?_ ?_; rotate_left
         ·exact u9_
         rotate_left
         ·exact u1_
         refine pure_ (i := 15) (N := some 37) (v := ?_) (a' := ?_) #[t_, t_, t_, t_, t_, t_, t_, t_, t_, t_, t_, t_, t_, t_, t_, t_] rfl rfl (any_of HT_.out u8_) (fun _ _ _ h => h) (Or.inl ⟨u45_, ?_⟩) ?_ ?_; rotate_left
         ·exact u9_
         rotate_left
         ·exact u1_
         refine done_ (done_of HT_.out u8_) ?_; try go_wp2
         go_ret
         exact ⟨u5_, u31_⟩
       ·exact u171_
      ·rw [if_neg c10] at H; exact absurd H u91_
    ·exact u153_
   ·rw [if_neg c4] at H; have c4b0 : decide (x5_1 < (l1_1.length : Int)) = false := decide_eq_false c4; clear c4; replace H := Option.bind_eq_some_iff.mp H; obtain ⟨t217, A200, H⟩ := H; replace H : (if t217 = true then ((spec_l2Form.f k1 a1_0 l1_1).bind fun t218 => (some t218)) else (some false)) = some r := H; have A20 := am_ A200; clear A200; by_cases c21 : t217 = true
    ·subst c21; have H1 : ((spec_l2Form.f k1 a1_0 l1_1).bind fun t218 => (some t218)) = some r := by rw [if_pos rfl] at H; exact H
     clear H; have H := H1; clear H1; replace H := Option.bind_eq_some_iff.mp H; obtain ⟨t218, A220, H⟩ := H; replace H : (some t218) = some r := H; have A22 := am_ A220; clear A220; obtain rfl := Option.some.inj H; have hcz23_0 : wr.cell? ⟨gb216, 0, none⟩ = some (.string a1_0) := (blk_cell BK216.out 0).trans rfl; have hcz23_1 : wr.cell? ⟨gb216, 1, none⟩ = some (.slice A1_1 l1_1.length c1_1) := (blk_cell BK216.out 1).trans rfl; have hfz23_0 := blk_frozen BK216.out 0; have hfz23_1 := blk_frozen BK216.out 1; go_wp2_with (first | ((with_reducible refine gate_callee (f := 26) rfl ?_); refine goesL_ (some 39) rfl rfl Tryz.func26 u8_ rfl #[.slice A0 l0.length c0] rfl u2_ ?_; (with_reducible refine (spec_FieldsOk.calls k1 _ _ l0 true _ ?side1 ?side2 A20.out).mono ?_); (case side1 => repeat (first | exact (Kd.C_below HR0.out HB.out) | (with_reducible refine Kd.C_alloc ?_ _) | (with_reducible refine Kd.C_drewN ?_ _) | (with_reducible refine Kd.C_drew ?_))); (case side2 => exact HC0.out); rintro e w24 ⟨rfl, hb⟩; refine ⟨_, rfl, ?_⟩; replace BK216 := am_ (blk_below (g := gb216) (o := .cells #[.string a1_0, .slice A1_1 l1_1.length c1_1] 45 (0, 0)) u52_ hb); replace HB := am_ (below_step u31_ hb); (try clear hb); (try clear hb2); (try clear hk); (try clear hi); have hcz25_0 : w24.cell? ⟨gb216, 0, none⟩ = some (.string a1_0) := (blk_cell BK216.out 0).trans rfl; have hcz25_1 : w24.cell? ⟨gb216, 1, none⟩ = some (.slice A1_1 l1_1.length c1_1) := (blk_cell BK216.out 1).trans rfl; have hfz25_0 := blk_frozen BK216.out 0; have hfz25_1 := blk_frozen BK216.out 1) | (go_at_call 74; (with_reducible refine (spec_l2Form.calls k1 a1_0 _ _ l1_1 t218 _ ?side1 ?side2 A22.out).mono ?_); (case side1 => repeat (first | exact (Kd.C_below HR1_1.out HB.out) | (with_reducible refine Kd.C_alloc ?_ _) | (with_reducible refine Kd.C_drewN ?_ _) | (with_reducible refine Kd.C_drew ?_))); (case side2 => exact HC1_1.out); rintro e w26 ⟨rfl, hb⟩; replace BK216 := am_ (blk_below (g := gb216) (o := .cells #[.string a1_0, .slice A1_1 l1_1.length c1_1] 45 (0, 0)) u52_ hb); replace HB := am_ (below_step u31_ hb); (try clear hb); (try clear hb2); (try clear hk); (try clear hi)))
     go_ret
     exact ⟨u5_, u31_⟩
    ·replace c21 := Bool.eq_false_iff.mpr c21; subst c21; have H1 : (some false) = some r := by rw [if_neg (show ¬ (false = true) by decide)] at H; exact H
     clear H; have H := H1; clear H1; obtain rfl := Option.some.inj H; have hcz27_0 : wr.cell? ⟨gb216, 0, none⟩ = some (.string a1_0) := (blk_cell BK216.out 0).trans rfl; have hcz27_1 : wr.cell? ⟨gb216, 1, none⟩ = some (.slice A1_1 l1_1.length c1_1) := (blk_cell BK216.out 1).trans rfl; have hfz27_0 := blk_frozen BK216.out 0; have hfz27_1 := blk_frozen BK216.out 1; go_wp2_with (first | ((with_reducible refine gate_callee (f := 26) rfl ?_); refine goesL_ (some 39) rfl rfl Tryz.func26 u8_ rfl #[.slice A0 l0.length c0] rfl u2_ ?_; (with_reducible refine (spec_FieldsOk.calls k1 _ _ l0 false _ ?side1 ?side2 A20.out).mono ?_); (case side1 => repeat (first | exact (Kd.C_below HR0.out HB.out) | (with_reducible refine Kd.C_alloc ?_ _) | (with_reducible refine Kd.C_drewN ?_ _) | (with_reducible refine Kd.C_drew ?_))); (case side2 => exact HC0.out); rintro e w28 ⟨rfl, hb⟩; refine ⟨_, rfl, ?_⟩; replace BK216 := am_ (blk_below (g := gb216) (o := .cells #[.string a1_0, .slice A1_1 l1_1.length c1_1] 45 (0, 0)) u52_ hb); replace HB := am_ (below_step u31_ hb); (try clear hb); (try clear hb2); (try clear hk); (try clear hi)))
     go_ret
     exact ⟨u5_, u31_⟩

/-! ### spec_l2Kind: function 40 -/
def spec_l2Kind.f (k : Nat) (l0 : List (S79)) (a1 : ByteArray) (a2 : Int) : Option (Bool) := (spec_l2Field.f k l0 a1).bind fun t224 => (if t224 ≥ 0 then (if 0 ≤ t224 then (if t224 < (l0.length : Int) then (some (((rd_T79 l0 t224).f1) == a2)) else (none)) else (none)) else (some false))
theorem spec_l2Kind.mono : ∀ a0 a1 a2 k, LeO (spec_l2Kind.f k a0 a1 a2) (spec_l2Kind.f (k + 1) a0 a1 a2) := by
 intro a0 a1 a2 k; unfold spec_l2Kind.f
 repeat' first
   | (with_reducible exact spec_l2Field.mono _ _ _)
   | (with_reducible exact LeO.refl _)
   | (with_reducible exact LeO.none _)
   | (with_reducible refine LeO.ite ?_ ?_)
   | (with_reducible refine LeO.bind ?_ (fun _ => ?_))
   | exact spec_l2Field.mono _ _ _
   | exact LeO.none _
   | refine LeO.ite ?_ ?_
   | refine LeO.bind ?_ (fun _ => ?_)
set_option maxHeartbeats 8000000 in
set_option maxRecDepth 100000 in
theorem spec_l2Kind.calls (k : Nat) (A0 : Option Addr) (c0 : Nat) (l0 : List (S79)) (a1 : ByteArray) (a2 : Int) (r : Bool) (w : World) (hr0 : Kd.C k79 w A0 l0.length l0) (hc0 : l0.length ≤ c0) (h : spec_l2Kind.f k l0 a1 a2 = some r) :
  Calls Tryz.prog 40 #[.slice A0 l0.length c0, .string a1, .int .i64 a2] w fun e w' => e = .returned (.bool r) ∧ Drawn0 w w' := by
 have HR0 := am_ hr0; have HC0 := am_ hc0; clear hr0 hc0; have H : ((spec_l2Field.f k l0 a1).bind fun t224 => (if t224 ≥ 0 then (if 0 ≤ t224 then (if t224 < (l0.length : Int) then (some (((rd_T79 l0 t224).f1) == a2)) else (none)) else (none)) else (some false))) = some r := h; clear h; replace H := Option.bind_eq_some_iff.mp H; obtain ⟨t224, A40, H⟩ := H; replace H : (if t224 ≥ 0 then (if 0 ≤ t224 then (if t224 < (l0.length : Int) then (some (((rd_T79 l0 t224).f1) == a2)) else (none)) else (none)) else (some false)) = some r := H; have A4 := am_ A40; clear A40; by_cases c5 : t224 ≥ 0
 ·rw [if_pos c5] at H; have c5b0 : decide (0 ≤ t224) = true := decide_eq_true c5; clear c5; by_cases c6 : 0 ≤ t224
  ·rw [if_pos c6] at H; have c6b0 : decide (0 ≤ t224) = true := decide_eq_true c6; clear c6; by_cases c7 : t224 < (l0.length : Int)
   ·rw [if_pos c7] at H; have c7b0 : decide (t224 < (l0.length : Int)) = true := decide_eq_true c7; clear c7; obtain rfl := Option.some.inj H; go_enter Tryz.func40, Tryz.ntmps40
    go_wp2_with (first | ((with_reducible refine gate_callee (f := 57) rfl ?_); refine goesL_ (some 10) rfl rfl Tryz.func57 u8_ rfl #[.slice A0 l0.length c0, .string a1] rfl u2_ ?_; (with_reducible refine (spec_l2Field.calls k _ _ l0 a1 t224 _ ?side1 ?side2 A4.out).mono ?_); (case side1 => repeat (first | exact HR0.out | (with_reducible refine Kd.C_alloc ?_ _) | (with_reducible refine Kd.C_drewN ?_ _) | (with_reducible refine Kd.C_drew ?_))); (case side2 => exact HC0.out); rintro e w' ⟨rfl, ⟨nd, rfl⟩⟩; refine ⟨_, rfl, ?_⟩; have p225 : 0 ≤ (t224 : Int) := of_decide_eq_true u4_; have q225 : t224 < (l0.length : Int) := of_decide_eq_true u4_; obtain ⟨ad225, e225, hx225_0, hx225_1, hx225_2⟩ := at_T79 HR0.out t224 p225 q225; cases e225; replace p225 := eq_true p225; replace q225 := eq_true q225))
    go_ret
    exact ⟨u25_, u20_⟩
   ·exact u170_
  ·exact u168_
 ·rw [if_neg c5] at H; have c5b0 : decide (0 ≤ t224) = false := decide_eq_false c5; clear c5; obtain rfl := Option.some.inj H; go_enter Tryz.func40, Tryz.ntmps40
  go_wp2_with (first | ((with_reducible refine gate_callee (f := 57) rfl ?_); refine goesL_ (some 10) rfl rfl Tryz.func57 u8_ rfl #[.slice A0 l0.length c0, .string a1] rfl u2_ ?_; (with_reducible refine (spec_l2Field.calls k _ _ l0 a1 t224 _ ?side1 ?side2 A4.out).mono ?_); (case side1 => repeat (first | exact HR0.out | (with_reducible refine Kd.C_alloc ?_ _) | (with_reducible refine Kd.C_drewN ?_ _) | (with_reducible refine Kd.C_drew ?_))); (case side2 => exact HC0.out); rintro e w' ⟨rfl, ⟨nd, rfl⟩⟩; refine ⟨_, rfl, ?_⟩))
  go_ret
  exact ⟨u25_, u20_⟩

/-! ### spec_DocTags: function 12 -/
def spec_DocTags.f (k : Nat) (l0 : List (S79)) (a1_0 : ByteArray) (l1_1 : List (S96)) (a2 : ByteArray) : Option (List ByteArray) := (spec_DocText.f k a1_0 l1_1 a2).bind fun bt227 => ((spec_DocOk.f k l0 a1_0 l1_1).bind fun t229 => (if t229 = true then (if bt227.2 = true then ((spec_l2Kind.f k l0 a2 3).bind fun t230 => (if t230 = true then ((spec_l2Tags.f k bt227.1).bind fun bt231 => (some bt231.1)) else (some (([] : List ByteArray))))) else (some (([] : List ByteArray)))) else (some (([] : List ByteArray)))))
theorem spec_DocTags.mono : ∀ a0 a1 a2 a3 k, LeO (spec_DocTags.f k a0 a1 a2 a3) (spec_DocTags.f (k + 1) a0 a1 a2 a3) := by
 intro a0 a1 a2 a3 k; unfold spec_DocTags.f
 repeat' first
   | (with_reducible exact spec_DocOk.mono _ _ _ _)
   | (with_reducible exact spec_DocText.mono _ _ _ _)
   | (with_reducible exact spec_l2Kind.mono _ _ _ _)
   | (with_reducible exact spec_l2Tags.mono _ _)
   | (with_reducible exact LeO.refl _)
   | (with_reducible exact LeO.none _)
   | (with_reducible refine LeO.ite ?_ ?_)
   | (with_reducible refine LeO.bind ?_ (fun _ => ?_))
   | exact spec_DocOk.mono _ _ _ _
   | exact spec_DocText.mono _ _ _ _
   | exact spec_l2Kind.mono _ _ _ _
   | exact spec_l2Tags.mono _ _
   | exact LeO.none _
   | refine LeO.ite ?_ ?_
   | refine LeO.bind ?_ (fun _ => ?_)
set_option maxHeartbeats 8000000 in
set_option maxRecDepth 100000 in
theorem spec_DocTags.calls (k : Nat) (A0 : Option Addr) (c0 : Nat) (l0 : List (S79)) (a1_0 : ByteArray) (A1_1 : Option Addr) (c1_1 : Nat) (l1_1 : List (S96)) (a2 : ByteArray) (r : List ByteArray) (w : World) (hr0 : Kd.C k79 w A0 l0.length l0) (hc0 : l0.length ≤ c0) (hr1_1 : Kd.C k96 w A1_1 l1_1.length l1_1) (hc1_1 : l1_1.length ≤ c1_1) (h : spec_DocTags.f k l0 a1_0 l1_1 a2 = some r) :
  Calls Tryz.prog 12 #[.slice A0 l0.length c0, .agg #[.string a1_0, .slice A1_1 l1_1.length c1_1], .string a2] w fun e w' => ∃ v0_ : Value, e = .returned (v0_) ∧ Kd.R Kd.string 9 w' w.heap.size (fun _ => True) v0_ r ∧ Below w.heap.size w w' := by
 have hu45 := Tryz.underlying45; have HR0 := am_ hr0; have HC0 := am_ hc0; clear hr0 hc0; have HR1_1 := am_ hr1_1; have HC1_1 := am_ hc1_1; clear hr1_1 hc1_1; have HB := am_ (Below.refl w.heap.size w); have H : ((spec_DocText.f k a1_0 l1_1 a2).bind fun bt227 => ((spec_DocOk.f k l0 a1_0 l1_1).bind fun t229 => (if t229 = true then (if bt227.2 = true then ((spec_l2Kind.f k l0 a2 3).bind fun t230 => (if t230 = true then ((spec_l2Tags.f k bt227.1).bind fun bt231 => (some bt231.1)) else (some (([] : List ByteArray))))) else (some (([] : List ByteArray)))) else (some (([] : List ByteArray)))))) = some r := h; clear h; replace H := Option.bind_eq_some_iff.mp H; obtain ⟨⟨t227, t228⟩, A40, H⟩ := H; replace H : ((spec_DocOk.f k l0 a1_0 l1_1).bind fun t229 => (if t229 = true then (if t228 = true then ((spec_l2Kind.f k l0 a2 3).bind fun t230 => (if t230 = true then ((spec_l2Tags.f k t227).bind fun bt231 => (some bt231.1)) else (some (([] : List ByteArray))))) else (some (([] : List ByteArray)))) else (some (([] : List ByteArray))))) = some r := H; have A4 := am_ A40; clear A40; replace H := Option.bind_eq_some_iff.mp H; obtain ⟨t229, A50, H⟩ := H; replace H : (if t229 = true then (if t228 = true then ((spec_l2Kind.f k l0 a2 3).bind fun t230 => (if t230 = true then ((spec_l2Tags.f k t227).bind fun bt231 => (some bt231.1)) else (some (([] : List ByteArray))))) else (some (([] : List ByteArray)))) else (some (([] : List ByteArray)))) = some r := H; have A5 := am_ A50; clear A50; by_cases c6 : t229 = true
 ·subst c6; have H1 : (if t228 = true then ((spec_l2Kind.f k l0 a2 3).bind fun t230 => (if t230 = true then ((spec_l2Tags.f k t227).bind fun bt231 => (some bt231.1)) else (some (([] : List ByteArray))))) else (some (([] : List ByteArray)))) = some r := by rw [if_pos rfl] at H; exact H
  clear H; have H := H1; clear H1; by_cases c7 : t228 = true
  ·subst c7; have H1 : ((spec_l2Kind.f k l0 a2 3).bind fun t230 => (if t230 = true then ((spec_l2Tags.f k t227).bind fun bt231 => (some bt231.1)) else (some (([] : List ByteArray))))) = some r := by rw [if_pos rfl] at H; exact H
   clear H; have H := H1; clear H1; replace H := Option.bind_eq_some_iff.mp H; obtain ⟨t230, A80, H⟩ := H; replace H : (if t230 = true then ((spec_l2Tags.f k t227).bind fun bt231 => (some bt231.1)) else (some (([] : List ByteArray)))) = some r := H; have A8 := am_ A80; clear A80; by_cases c9 : t230 = true
   ·subst c9; have H1 : ((spec_l2Tags.f k t227).bind fun bt231 => (some bt231.1)) = some r := by rw [if_pos rfl] at H; exact H
    clear H; have H := H1; clear H1; replace H := Option.bind_eq_some_iff.mp H; obtain ⟨⟨t231, t232⟩, A100, H⟩ := H; replace H : (some t231) = some r := H; have A10 := am_ A100; clear A100; obtain rfl := Option.some.inj H; go_enter Tryz.func12, Tryz.ntmps12
    go_wp2_with (first | ((with_reducible refine gate_dst (N := 4) rfl ?_); refine box_event ?hg (N := 4) ?hd (cs := #[.string a1_0, .slice A1_1 l1_1.length c1_1]) (t := 45) ?hr ?_; (case hd => rfl); (case hg => rfl); (case hr => first | (go_simp; done) | (go_simp; rfl)); intro gb226 hg w11 hbox hb; have BK226 := am_ (hbox); have GW226 := am_ ((by rw [hg]; exact (below_size u0_) : w.heap.size ≤ gb226)); have GE226 := GW226; replace HB := am_ (below_step u0_ hb); clear hb hbox hg; have hcz12_0 : w11.cell? ⟨gb226, 0, none⟩ = some (.string a1_0) := (blk_cell BK226.out 0).trans rfl; have hcz12_1 : w11.cell? ⟨gb226, 1, none⟩ = some (.slice A1_1 l1_1.length c1_1) := (blk_cell BK226.out 1).trans rfl; have hfz12_0 := blk_frozen BK226.out 0; have hfz12_1 := blk_frozen BK226.out 1) | ((with_reducible refine gate_callee (f := 38) rfl ?_); refine goesL_ (some 14) rfl rfl Tryz.func38 u8_ rfl #[.agg #[.string a1_0, .slice A1_1 l1_1.length c1_1], .string a2] rfl u2_ ?_; (with_reducible refine (spec_DocText.calls k a1_0 _ _ l1_1 a2 t227 true _ ?side1 ?side2 A4.out).mono ?_); (case side1 => repeat (first | exact (Kd.C_below HR1_1.out HB.out) | (with_reducible refine Kd.C_alloc ?_ _) | (with_reducible refine Kd.C_drewN ?_ _) | (with_reducible refine Kd.C_drew ?_))); (case side2 => exact HC1_1.out); rintro e w13 ⟨rfl, hb⟩; refine ⟨_, rfl, ?_⟩; replace BK226 := am_ (blk_below (g := gb226) (o := .cells #[.string a1_0, .slice A1_1 l1_1.length c1_1] 45 (0, 0)) u43_ hb); replace HB := am_ (below_step u23_ hb); (try clear hb); (try clear hb2); (try clear hk); (try clear hi); have hcz14_0 : w13.cell? ⟨gb226, 0, none⟩ = some (.string a1_0) := (blk_cell BK226.out 0).trans rfl; have hcz14_1 : w13.cell? ⟨gb226, 1, none⟩ = some (.slice A1_1 l1_1.length c1_1) := (blk_cell BK226.out 1).trans rfl; have hfz14_0 := blk_frozen BK226.out 0; have hfz14_1 := blk_frozen BK226.out 1) | ((with_reducible refine gate_callee (f := 39) rfl ?_); refine goesL_ (some 19) rfl rfl Tryz.func39 u8_ rfl #[.slice A0 l0.length c0, .agg #[.string a1_0, .slice A1_1 l1_1.length c1_1]] rfl u2_ ?_; (with_reducible refine (spec_DocOk.calls k _ _ l0 a1_0 _ _ l1_1 true _ ?side1 ?side2 ?side3 ?side4 A5.out).mono ?_); (case side1 => repeat (first | exact (Kd.C_below HR0.out HB.out) | (with_reducible refine Kd.C_alloc ?_ _) | (with_reducible refine Kd.C_drewN ?_ _) | (with_reducible refine Kd.C_drew ?_))); (case side2 => exact HC0.out); (case side3 => repeat (first | exact (Kd.C_below HR1_1.out HB.out) | (with_reducible refine Kd.C_alloc ?_ _) | (with_reducible refine Kd.C_drewN ?_ _) | (with_reducible refine Kd.C_drew ?_))); (case side4 => exact HC1_1.out); rintro e w15 ⟨rfl, hb⟩; refine ⟨_, rfl, ?_⟩; replace BK226 := am_ (blk_below (g := gb226) (o := .cells #[.string a1_0, .slice A1_1 l1_1.length c1_1] 45 (0, 0)) u43_ hb); replace HB := am_ (below_step u23_ hb); (try clear hb); (try clear hb2); (try clear hk); (try clear hi)) | (go_at_call 40; (with_reducible refine (spec_l2Kind.calls k _ _ l0 a2 3 true _ ?side1 ?side2 A8.out).mono ?_); (case side1 => repeat (first | exact (Kd.C_below HR0.out HB.out) | (with_reducible refine Kd.C_alloc ?_ _) | (with_reducible refine Kd.C_drewN ?_ _) | (with_reducible refine Kd.C_drew ?_))); (case side2 => exact HC0.out); rintro e w' ⟨rfl, ⟨nd, rfl⟩⟩) | ((with_reducible refine gate_callee (f := 41) rfl ?_); refine goesL_ (some 34) rfl rfl Tryz.func41 u8_ rfl #[.string t227] rfl u2_ ?_; (with_reducible refine (spec_l2Tags.calls k t227 t231 t232 _ A10.out).mono ?_); rintro e w16 ⟨v233, rfl, ho0, hb⟩; refine ⟨_, rfl, ?_⟩; have HO234 := am_ (Kd.R_lower ho0 (below_size u23_)); replace BK226 := am_ (blk_below (g := gb226) (o := .cells #[.string a1_0, .slice A1_1 l1_1.length c1_1] 45 (0, 0)) u43_ hb); replace HB := am_ (below_step u23_ hb); (try clear hb); (try clear hb2); (try clear hk); (try clear hi); (try clear ho0)))
    go_ret
    exact ⟨_, u5_, by (with_reducible repeat (first | apply Kd.R_alloc | apply Kd.R_drewN | apply Kd.R_drew)); exact HO234.out, u23_⟩
   ·replace c9 := Bool.eq_false_iff.mpr c9; subst c9; have H1 : (some (([] : List ByteArray))) = some r := by rw [if_neg (show ¬ (false = true) by decide)] at H; exact H
    clear H; have H := H1; clear H1; obtain ⟨y235, hy235⟩ : ∃ y_ : List ByteArray, y_ = (([] : List ByteArray)) := ⟨_, rfl⟩; replace H : (some y235) = some r := by first | (rw [hy235]; with_reducible exact H) | (have H2_ := (Option.bind_some _ _).symm.trans H; rw [hy235]; with_reducible exact H2_) | (have H2_ := (Option.bind_some _ _).symm.trans H; with_reducible exact H2_) | with_reducible exact H | (rw [hy235]; exact H) | exact H
    have Ny235 := am_ hy235; clear hy235; obtain rfl := Option.some.inj H; go_enter Tryz.func12, Tryz.ntmps12
    go_wp2_with (first | ((with_reducible refine gate_dst (N := 4) rfl ?_); refine box_event ?hg (N := 4) ?hd (cs := #[.string a1_0, .slice A1_1 l1_1.length c1_1]) (t := 45) ?hr ?_; (case hd => rfl); (case hg => rfl); (case hr => first | (go_simp; done) | (go_simp; rfl)); intro gb226 hg w17 hbox hb; have BK226 := am_ (hbox); have GW226 := am_ ((by rw [hg]; exact (below_size u0_) : w.heap.size ≤ gb226)); have GE226 := GW226; replace HB := am_ (below_step u0_ hb); clear hb hbox hg; have hcz18_0 : w17.cell? ⟨gb226, 0, none⟩ = some (.string a1_0) := (blk_cell BK226.out 0).trans rfl; have hcz18_1 : w17.cell? ⟨gb226, 1, none⟩ = some (.slice A1_1 l1_1.length c1_1) := (blk_cell BK226.out 1).trans rfl; have hfz18_0 := blk_frozen BK226.out 0; have hfz18_1 := blk_frozen BK226.out 1) | ((with_reducible refine gate_callee (f := 38) rfl ?_); refine goesL_ (some 14) rfl rfl Tryz.func38 u8_ rfl #[.agg #[.string a1_0, .slice A1_1 l1_1.length c1_1], .string a2] rfl u2_ ?_; (with_reducible refine (spec_DocText.calls k a1_0 _ _ l1_1 a2 t227 true _ ?side1 ?side2 A4.out).mono ?_); (case side1 => repeat (first | exact (Kd.C_below HR1_1.out HB.out) | (with_reducible refine Kd.C_alloc ?_ _) | (with_reducible refine Kd.C_drewN ?_ _) | (with_reducible refine Kd.C_drew ?_))); (case side2 => exact HC1_1.out); rintro e w19 ⟨rfl, hb⟩; refine ⟨_, rfl, ?_⟩; replace BK226 := am_ (blk_below (g := gb226) (o := .cells #[.string a1_0, .slice A1_1 l1_1.length c1_1] 45 (0, 0)) u43_ hb); replace HB := am_ (below_step u23_ hb); (try clear hb); (try clear hb2); (try clear hk); (try clear hi); have hcz20_0 : w19.cell? ⟨gb226, 0, none⟩ = some (.string a1_0) := (blk_cell BK226.out 0).trans rfl; have hcz20_1 : w19.cell? ⟨gb226, 1, none⟩ = some (.slice A1_1 l1_1.length c1_1) := (blk_cell BK226.out 1).trans rfl; have hfz20_0 := blk_frozen BK226.out 0; have hfz20_1 := blk_frozen BK226.out 1) | ((with_reducible refine gate_callee (f := 39) rfl ?_); refine goesL_ (some 19) rfl rfl Tryz.func39 u8_ rfl #[.slice A0 l0.length c0, .agg #[.string a1_0, .slice A1_1 l1_1.length c1_1]] rfl u2_ ?_; (with_reducible refine (spec_DocOk.calls k _ _ l0 a1_0 _ _ l1_1 true _ ?side1 ?side2 ?side3 ?side4 A5.out).mono ?_); (case side1 => repeat (first | exact (Kd.C_below HR0.out HB.out) | (with_reducible refine Kd.C_alloc ?_ _) | (with_reducible refine Kd.C_drewN ?_ _) | (with_reducible refine Kd.C_drew ?_))); (case side2 => exact HC0.out); (case side3 => repeat (first | exact (Kd.C_below HR1_1.out HB.out) | (with_reducible refine Kd.C_alloc ?_ _) | (with_reducible refine Kd.C_drewN ?_ _) | (with_reducible refine Kd.C_drew ?_))); (case side4 => exact HC1_1.out); rintro e w21 ⟨rfl, hb⟩; refine ⟨_, rfl, ?_⟩; replace BK226 := am_ (blk_below (g := gb226) (o := .cells #[.string a1_0, .slice A1_1 l1_1.length c1_1] 45 (0, 0)) u43_ hb); replace HB := am_ (below_step u23_ hb); (try clear hb); (try clear hb2); (try clear hk); (try clear hi)) | (go_at_call 40; (with_reducible refine (spec_l2Kind.calls k _ _ l0 a2 3 false _ ?side1 ?side2 A8.out).mono ?_); (case side1 => repeat (first | exact (Kd.C_below HR0.out HB.out) | (with_reducible refine Kd.C_alloc ?_ _) | (with_reducible refine Kd.C_drewN ?_ _) | (with_reducible refine Kd.C_drew ?_))); (case side2 => exact HC0.out); rintro e w' ⟨rfl, ⟨nd, rfl⟩⟩) | ((with_reducible refine gate_dst (N := 31) rfl ?_); refine Kd.R_lit Kd.string _ 9 ?hg (N := 31) ?hd (xs := ([] : List ByteArray)) (inner := []) (ok := fun _ => True) (okp := fun _ => True) ?hr ?hp (fun _ hk => hk) trivial (Below.refl _ _) (Nat.le_refl _) u91_ ?_; (case hd => rfl); (case hg => rfl); (case hr => first | (go_simp; done) | (go_simp; rfl)); (case hp => exact (Reps.none _ _)); intro v236 w22 ho23 hb hg_ hnew_; clear hg_ hnew_; (first | rw [← Ny235.out] at ho23 | (simp only [Int.reduceToNat] at ho23; rw [← Ny235.out] at ho23)); have HO237 := am_ (Kd.R_lower ho23 (below_size u23_)); replace BK226 := am_ (blk_below (g := gb226) (o := .cells #[.string a1_0, .slice A1_1 l1_1.length c1_1] 45 (0, 0)) u43_ hb); replace HB := am_ (below_step u23_ hb); clear hb ho23))
    go_ret
    exact ⟨_, u5_, by (with_reducible repeat (first | apply Kd.R_alloc | apply Kd.R_drewN | apply Kd.R_drew)); exact HO237.out, u23_⟩
  ·replace c7 := Bool.eq_false_iff.mpr c7; subst c7; have H1 : (some (([] : List ByteArray))) = some r := by rw [if_neg (show ¬ (false = true) by decide)] at H; exact H
   clear H; have H := H1; clear H1; obtain ⟨y238, hy238⟩ : ∃ y_ : List ByteArray, y_ = (([] : List ByteArray)) := ⟨_, rfl⟩; replace H : (some y238) = some r := by first | (rw [hy238]; with_reducible exact H) | (have H2_ := (Option.bind_some _ _).symm.trans H; rw [hy238]; with_reducible exact H2_) | (have H2_ := (Option.bind_some _ _).symm.trans H; with_reducible exact H2_) | with_reducible exact H | (rw [hy238]; exact H) | exact H
   have Ny238 := am_ hy238; clear hy238; obtain rfl := Option.some.inj H; go_enter Tryz.func12, Tryz.ntmps12
   go_wp2_with (first | ((with_reducible refine gate_dst (N := 4) rfl ?_); refine box_event ?hg (N := 4) ?hd (cs := #[.string a1_0, .slice A1_1 l1_1.length c1_1]) (t := 45) ?hr ?_; (case hd => rfl); (case hg => rfl); (case hr => first | (go_simp; done) | (go_simp; rfl)); intro gb226 hg w24 hbox hb; have BK226 := am_ (hbox); have GW226 := am_ ((by rw [hg]; exact (below_size u0_) : w.heap.size ≤ gb226)); have GE226 := GW226; replace HB := am_ (below_step u0_ hb); clear hb hbox hg; have hcz25_0 : w24.cell? ⟨gb226, 0, none⟩ = some (.string a1_0) := (blk_cell BK226.out 0).trans rfl; have hcz25_1 : w24.cell? ⟨gb226, 1, none⟩ = some (.slice A1_1 l1_1.length c1_1) := (blk_cell BK226.out 1).trans rfl; have hfz25_0 := blk_frozen BK226.out 0; have hfz25_1 := blk_frozen BK226.out 1) | ((with_reducible refine gate_callee (f := 38) rfl ?_); refine goesL_ (some 14) rfl rfl Tryz.func38 u8_ rfl #[.agg #[.string a1_0, .slice A1_1 l1_1.length c1_1], .string a2] rfl u2_ ?_; (with_reducible refine (spec_DocText.calls k a1_0 _ _ l1_1 a2 t227 false _ ?side1 ?side2 A4.out).mono ?_); (case side1 => repeat (first | exact (Kd.C_below HR1_1.out HB.out) | (with_reducible refine Kd.C_alloc ?_ _) | (with_reducible refine Kd.C_drewN ?_ _) | (with_reducible refine Kd.C_drew ?_))); (case side2 => exact HC1_1.out); rintro e w26 ⟨rfl, hb⟩; refine ⟨_, rfl, ?_⟩; replace BK226 := am_ (blk_below (g := gb226) (o := .cells #[.string a1_0, .slice A1_1 l1_1.length c1_1] 45 (0, 0)) u43_ hb); replace HB := am_ (below_step u23_ hb); (try clear hb); (try clear hb2); (try clear hk); (try clear hi); have hcz27_0 : w26.cell? ⟨gb226, 0, none⟩ = some (.string a1_0) := (blk_cell BK226.out 0).trans rfl; have hcz27_1 : w26.cell? ⟨gb226, 1, none⟩ = some (.slice A1_1 l1_1.length c1_1) := (blk_cell BK226.out 1).trans rfl; have hfz27_0 := blk_frozen BK226.out 0; have hfz27_1 := blk_frozen BK226.out 1) | ((with_reducible refine gate_callee (f := 39) rfl ?_); refine goesL_ (some 19) rfl rfl Tryz.func39 u8_ rfl #[.slice A0 l0.length c0, .agg #[.string a1_0, .slice A1_1 l1_1.length c1_1]] rfl u2_ ?_; (with_reducible refine (spec_DocOk.calls k _ _ l0 a1_0 _ _ l1_1 true _ ?side1 ?side2 ?side3 ?side4 A5.out).mono ?_); (case side1 => repeat (first | exact (Kd.C_below HR0.out HB.out) | (with_reducible refine Kd.C_alloc ?_ _) | (with_reducible refine Kd.C_drewN ?_ _) | (with_reducible refine Kd.C_drew ?_))); (case side2 => exact HC0.out); (case side3 => repeat (first | exact (Kd.C_below HR1_1.out HB.out) | (with_reducible refine Kd.C_alloc ?_ _) | (with_reducible refine Kd.C_drewN ?_ _) | (with_reducible refine Kd.C_drew ?_))); (case side4 => exact HC1_1.out); rintro e w28 ⟨rfl, hb⟩; refine ⟨_, rfl, ?_⟩; replace BK226 := am_ (blk_below (g := gb226) (o := .cells #[.string a1_0, .slice A1_1 l1_1.length c1_1] 45 (0, 0)) u43_ hb); replace HB := am_ (below_step u23_ hb); (try clear hb); (try clear hb2); (try clear hk); (try clear hi)) | ((with_reducible refine gate_dst (N := 31) rfl ?_); refine Kd.R_lit Kd.string _ 9 ?hg (N := 31) ?hd (xs := ([] : List ByteArray)) (inner := []) (ok := fun _ => True) (okp := fun _ => True) ?hr ?hp (fun _ hk => hk) trivial (Below.refl _ _) (Nat.le_refl _) u91_ ?_; (case hd => rfl); (case hg => rfl); (case hr => first | (go_simp; done) | (go_simp; rfl)); (case hp => exact (Reps.none _ _)); intro v239 w29 ho30 hb hg_ hnew_; clear hg_ hnew_; (first | rw [← Ny238.out] at ho30 | (simp only [Int.reduceToNat] at ho30; rw [← Ny238.out] at ho30)); have HO240 := am_ (Kd.R_lower ho30 (below_size u23_)); replace BK226 := am_ (blk_below (g := gb226) (o := .cells #[.string a1_0, .slice A1_1 l1_1.length c1_1] 45 (0, 0)) u43_ hb); replace HB := am_ (below_step u23_ hb); clear hb ho30))
   go_ret
   exact ⟨_, u5_, by (with_reducible repeat (first | apply Kd.R_alloc | apply Kd.R_drewN | apply Kd.R_drew)); exact HO240.out, u23_⟩
 ·replace c6 := Bool.eq_false_iff.mpr c6; subst c6; have H1 : (some (([] : List ByteArray))) = some r := by rw [if_neg (show ¬ (false = true) by decide)] at H; exact H
  clear H; have H := H1; clear H1; obtain ⟨y241, hy241⟩ : ∃ y_ : List ByteArray, y_ = (([] : List ByteArray)) := ⟨_, rfl⟩; replace H : (some y241) = some r := by first | (rw [hy241]; with_reducible exact H) | (have H2_ := (Option.bind_some _ _).symm.trans H; rw [hy241]; with_reducible exact H2_) | (have H2_ := (Option.bind_some _ _).symm.trans H; with_reducible exact H2_) | with_reducible exact H | (rw [hy241]; exact H) | exact H
  have Ny241 := am_ hy241; clear hy241; obtain rfl := Option.some.inj H; go_enter Tryz.func12, Tryz.ntmps12
  go_wp2_with (first | ((with_reducible refine gate_dst (N := 4) rfl ?_); refine box_event ?hg (N := 4) ?hd (cs := #[.string a1_0, .slice A1_1 l1_1.length c1_1]) (t := 45) ?hr ?_; (case hd => rfl); (case hg => rfl); (case hr => first | (go_simp; done) | (go_simp; rfl)); intro gb226 hg w31 hbox hb; have BK226 := am_ (hbox); have GW226 := am_ ((by rw [hg]; exact (below_size u0_) : w.heap.size ≤ gb226)); have GE226 := GW226; replace HB := am_ (below_step u0_ hb); clear hb hbox hg; have hcz32_0 : w31.cell? ⟨gb226, 0, none⟩ = some (.string a1_0) := (blk_cell BK226.out 0).trans rfl; have hcz32_1 : w31.cell? ⟨gb226, 1, none⟩ = some (.slice A1_1 l1_1.length c1_1) := (blk_cell BK226.out 1).trans rfl; have hfz32_0 := blk_frozen BK226.out 0; have hfz32_1 := blk_frozen BK226.out 1) | ((with_reducible refine gate_callee (f := 38) rfl ?_); refine goesL_ (some 14) rfl rfl Tryz.func38 u8_ rfl #[.agg #[.string a1_0, .slice A1_1 l1_1.length c1_1], .string a2] rfl u2_ ?_; (with_reducible refine (spec_DocText.calls k a1_0 _ _ l1_1 a2 t227 t228 _ ?side1 ?side2 A4.out).mono ?_); (case side1 => repeat (first | exact (Kd.C_below HR1_1.out HB.out) | (with_reducible refine Kd.C_alloc ?_ _) | (with_reducible refine Kd.C_drewN ?_ _) | (with_reducible refine Kd.C_drew ?_))); (case side2 => exact HC1_1.out); rintro e w33 ⟨rfl, hb⟩; refine ⟨_, rfl, ?_⟩; replace BK226 := am_ (blk_below (g := gb226) (o := .cells #[.string a1_0, .slice A1_1 l1_1.length c1_1] 45 (0, 0)) u43_ hb); replace HB := am_ (below_step u23_ hb); (try clear hb); (try clear hb2); (try clear hk); (try clear hi); have hcz34_0 : w33.cell? ⟨gb226, 0, none⟩ = some (.string a1_0) := (blk_cell BK226.out 0).trans rfl; have hcz34_1 : w33.cell? ⟨gb226, 1, none⟩ = some (.slice A1_1 l1_1.length c1_1) := (blk_cell BK226.out 1).trans rfl; have hfz34_0 := blk_frozen BK226.out 0; have hfz34_1 := blk_frozen BK226.out 1) | ((with_reducible refine gate_callee (f := 39) rfl ?_); refine goesL_ (some 19) rfl rfl Tryz.func39 u8_ rfl #[.slice A0 l0.length c0, .agg #[.string a1_0, .slice A1_1 l1_1.length c1_1]] rfl u2_ ?_; (with_reducible refine (spec_DocOk.calls k _ _ l0 a1_0 _ _ l1_1 false _ ?side1 ?side2 ?side3 ?side4 A5.out).mono ?_); (case side1 => repeat (first | exact (Kd.C_below HR0.out HB.out) | (with_reducible refine Kd.C_alloc ?_ _) | (with_reducible refine Kd.C_drewN ?_ _) | (with_reducible refine Kd.C_drew ?_))); (case side2 => exact HC0.out); (case side3 => repeat (first | exact (Kd.C_below HR1_1.out HB.out) | (with_reducible refine Kd.C_alloc ?_ _) | (with_reducible refine Kd.C_drewN ?_ _) | (with_reducible refine Kd.C_drew ?_))); (case side4 => exact HC1_1.out); rintro e w35 ⟨rfl, hb⟩; refine ⟨_, rfl, ?_⟩; replace BK226 := am_ (blk_below (g := gb226) (o := .cells #[.string a1_0, .slice A1_1 l1_1.length c1_1] 45 (0, 0)) u43_ hb); replace HB := am_ (below_step u23_ hb); (try clear hb); (try clear hb2); (try clear hk); (try clear hi)) | ((with_reducible refine gate_dst (N := 31) rfl ?_); refine Kd.R_lit Kd.string _ 9 ?hg (N := 31) ?hd (xs := ([] : List ByteArray)) (inner := []) (ok := fun _ => True) (okp := fun _ => True) ?hr ?hp (fun _ hk => hk) trivial (Below.refl _ _) (Nat.le_refl _) u91_ ?_; (case hd => rfl); (case hg => rfl); (case hr => first | (go_simp; done) | (go_simp; rfl)); (case hp => exact (Reps.none _ _)); intro v242 w36 ho37 hb hg_ hnew_; clear hg_ hnew_; (first | rw [← Ny241.out] at ho37 | (simp only [Int.reduceToNat] at ho37; rw [← Ny241.out] at ho37)); have HO243 := am_ (Kd.R_lower ho37 (below_size u23_)); replace BK226 := am_ (blk_below (g := gb226) (o := .cells #[.string a1_0, .slice A1_1 l1_1.length c1_1] 45 (0, 0)) u43_ hb); replace HB := am_ (below_step u23_ hb); clear hb ho37))
  go_ret
  exact ⟨_, u5_, by (with_reducible repeat (first | apply Kd.R_alloc | apply Kd.R_drewN | apply Kd.R_drew)); exact HO243.out, u23_⟩

/-! ### laws_toField: function 42 -/
def laws_toField.f (a0_0 : ByteArray) (a0_1 : Int) (a0_2 : Int) : Option (ByteArray × Int × Int) := some (a0_0, a0_1, a0_2)
set_option maxHeartbeats 8000000 in
set_option maxRecDepth 100000 in
theorem laws_toField.calls (a0_0 : ByteArray) (a0_1 : Int) (a0_2 : Int) (r1 : ByteArray) (r2 : Int) (r3 : Int) (w : World) (h : laws_toField.f a0_0 a0_1 a0_2 = some (r1, r2, r3)) :
  Calls Tryz.prog 42 #[.agg #[.string a0_0, .int .i64 a0_1, .int .i64 a0_2]] w fun e w' => e = .returned (.agg #[.string r1, .int .i64 r2, .int .i64 r3]) ∧ Below w.heap.size w w' := by
 have hu72 := Tryz.underlying72; have hu79 := Tryz.underlying79; have HB := am_ (Below.refl w.heap.size w); have H : (some (a0_0, a0_1, a0_2)) = some (r1, r2, r3) := h; clear h; simp only [Option.some.injEq, Prod.mk.injEq] at H; obtain ⟨rfl, rfl, rfl⟩ := H; go_enter Tryz.func42, Tryz.ntmps42
 go_wp2_with (first | ((with_reducible refine gate_dst (N := 1) rfl ?_); refine box_event ?hg (N := 1) ?hd (cs := #[.string a0_0, .int .i64 a0_1, .int .i64 a0_2]) (t := 72) ?hr ?_; (case hd => rfl); (case hg => rfl); (case hr => first | (go_simp; done) | (go_simp; rfl)); intro gb244 hg w2 hbox hb; have BK244 := am_ (hbox); have GW244 := am_ ((by rw [hg]; exact (below_size u0_) : w.heap.size ≤ gb244)); have GE244 := GW244; replace HB := am_ (below_step u0_ hb); clear hb hbox hg) | ((with_reducible refine gate_dst (N := 2) rfl ?_); refine box_event ?hg (N := 2) ?hd (cs := #[.string (⟨#[]⟩ : ByteArray), .int .i64 0, .int .i64 0]) (t := 79) ?hr ?_; (case hd => rfl); (case hg => rfl); (case hr => first | (go_simp; done) | (go_simp; rfl)); intro gb245 hg w3 hbox hb; have BK245 := am_ (hbox); have GW245 := am_ ((by rw [hg]; exact (below_size u120_) : w.heap.size ≤ gb245)); have GE245 := GW245; replace HB := am_ (below_step u120_ hb); have NB244_245 := am_ ((by rw [hg]; exact Nat.ne_of_lt (blk_lt (g := gb244) (o := .cells #[.string a0_0, .int .i64 a0_1, .int .i64 a0_2] 72 (0, 0)) u83_) : gb244 ≠ gb245)); have NB245_244 := am_ ((by rw [hg]; exact Nat.ne_of_gt (blk_lt (g := gb244) (o := .cells #[.string a0_0, .int .i64 a0_1, .int .i64 a0_2] 72 (0, 0)) u83_) : gb245 ≠ gb244)); replace BK244 := am_ (blk_below (g := gb244) (o := .cells #[.string a0_0, .int .i64 a0_1, .int .i64 a0_2] 72 (0, 0)) u83_ hb); clear hb hbox hg) | ((with_reducible refine gate_dst (N := 3) rfl ?_); refine box_event ?hg (N := 3) ?hd (cs := #[.string (⟨#[]⟩ : ByteArray), .int .i64 0, .int .i64 0]) (t := 79) ?hr ?_; (case hd => rfl); (case hg => rfl); (case hr => first | (go_simp; done) | (go_simp; rfl)); intro gb246 hg w4 hbox hb; have BK246 := am_ (hbox); have GW246 := am_ ((by rw [hg]; exact (below_size u112_) : w.heap.size ≤ gb246)); have GE246 := GW246; replace HB := am_ (below_step u112_ hb); have NB244_246 := am_ ((by rw [hg]; exact Nat.ne_of_lt (blk_lt (g := gb244) (o := .cells #[.string a0_0, .int .i64 a0_1, .int .i64 a0_2] 72 (0, 0)) u83_) : gb244 ≠ gb246)); have NB246_244 := am_ ((by rw [hg]; exact Nat.ne_of_gt (blk_lt (g := gb244) (o := .cells #[.string a0_0, .int .i64 a0_1, .int .i64 a0_2] 72 (0, 0)) u83_) : gb246 ≠ gb244)); replace BK244 := am_ (blk_below (g := gb244) (o := .cells #[.string a0_0, .int .i64 a0_1, .int .i64 a0_2] 72 (0, 0)) u83_ hb); have NB245_246 := am_ ((by rw [hg]; exact Nat.ne_of_lt (blk_lt (g := gb245) (o := .cells #[.string (⟨#[]⟩ : ByteArray), .int .i64 0, .int .i64 0] 79 (0, 0)) u106_) : gb245 ≠ gb246)); have NB246_245 := am_ ((by rw [hg]; exact Nat.ne_of_gt (blk_lt (g := gb245) (o := .cells #[.string (⟨#[]⟩ : ByteArray), .int .i64 0, .int .i64 0] 79 (0, 0)) u106_) : gb246 ≠ gb245)); replace BK245 := am_ (blk_below (g := gb245) (o := .cells #[.string (⟨#[]⟩ : ByteArray), .int .i64 0, .int .i64 0] 79 (0, 0)) u106_ hb); clear hb hbox hg; have hnb5 := NB244_245.out; have hnc5 := NB245_244.out; have hnb6 := NB244_246.out; have hnc6 := NB246_244.out; have hcz7_0 : w4.cell? ⟨gb244, 0, none⟩ = some (.string a0_0) := (blk_cell BK244.out 0).trans rfl; have hcz7_1 : w4.cell? ⟨gb244, 1, none⟩ = some (.int .i64 a0_1) := (blk_cell BK244.out 1).trans rfl; have hcz7_2 : w4.cell? ⟨gb244, 2, none⟩ = some (.int .i64 a0_2) := (blk_cell BK244.out 2).trans rfl; have hfz7_0 := blk_frozen BK244.out 0; have hfz7_1 := blk_frozen BK244.out 1; have hfz7_2 := blk_frozen BK244.out 2; have hnb8 := NB246_245.out; have hnc8 := NB245_246.out; have hcz9_0 : w4.cell? ⟨gb246, 0, none⟩ = some (.string (⟨#[]⟩ : ByteArray)) := (blk_cell BK246.out 0).trans rfl; have hcz9_1 : w4.cell? ⟨gb246, 1, none⟩ = some (.int .i64 0) := (blk_cell BK246.out 1).trans rfl; have hcz9_2 : w4.cell? ⟨gb246, 2, none⟩ = some (.int .i64 0) := (blk_cell BK246.out 2).trans rfl; have hfz9_0 := blk_frozen BK246.out 0; have hfz9_1 := blk_frozen BK246.out 1; have hfz9_2 := blk_frozen BK246.out 2; have hcz10_0 : w4.cell? ⟨gb245, 0, none⟩ = some (.string (⟨#[]⟩ : ByteArray)) := (blk_cell BK245.out 0).trans rfl; have hcz10_1 : w4.cell? ⟨gb245, 1, none⟩ = some (.int .i64 0) := (blk_cell BK245.out 1).trans rfl; have hcz10_2 : w4.cell? ⟨gb245, 2, none⟩ = some (.int .i64 0) := (blk_cell BK245.out 2).trans rfl; have hfz10_0 := blk_frozen BK245.out 0; have hfz10_1 := blk_frozen BK245.out 1; have hfz10_2 := blk_frozen BK245.out 2))
 refine bodyPost_ret (results_cell_row rfl _ _ gb245 79 #[.string a0_0, .int .i64 a0_1, .int .i64 a0_2] (0, 0) _ rfl (by (with_reducible repeat (first | refine blk_drewN ?_ _ | refine blk_drew ?_ | refine blk_alloc ?_ _)); refine blk_put (cs := #[.string a0_0, .int .i64 a0_1, .int .i64 0]) ?_ 2 _ rfl; (with_reducible repeat (first | refine blk_drewN ?_ _ | refine blk_drew ?_ | refine blk_alloc ?_ _)); refine blk_put (cs := #[.string a0_0, .int .i64 0, .int .i64 0]) ?_ 1 _ rfl; (with_reducible repeat (first | refine blk_drewN ?_ _ | refine blk_drew ?_ | refine blk_alloc ?_ _)); refine blk_put (cs := #[.string (⟨#[]⟩ : ByteArray), .int .i64 0, .int .i64 0]) ?_ 0 _ rfl; (with_reducible repeat (first | refine blk_drewN ?_ _ | refine blk_drew ?_ | refine blk_alloc ?_ _)); refine blk_far ?_ NB245_246.out _; (with_reducible repeat (first | refine blk_drewN ?_ _ | refine blk_drew ?_ | refine blk_alloc ?_ _)); refine blk_far ?_ NB245_246.out _; (with_reducible repeat (first | refine blk_drewN ?_ _ | refine blk_drew ?_ | refine blk_alloc ?_ _)); refine blk_far ?_ NB245_246.out _; (with_reducible repeat (first | refine blk_drewN ?_ _ | refine blk_drew ?_ | refine blk_alloc ?_ _)); exact BK245.out) Tryz.underlying79 rfl u8_) rfl ?_; exact ⟨u5_, by repeat (first | (with_reducible first | exact HB.out | apply below_alloc | apply pw_below_drewN | apply below_drew1 | refine below_set ?_ GE244.out | refine below_set ?_ GE245.out | refine below_set ?_ GE246.out) | exact HB.out)⟩

end Go.Proofs.YtelcdhjdlgedeaaGreatDoor.PFnExactDocTags
