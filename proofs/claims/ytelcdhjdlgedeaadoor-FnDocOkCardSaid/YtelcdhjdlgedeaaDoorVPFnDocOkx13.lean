/- Contracts of Go functions that the law FnDocOk reaches: each is told as a plain Lean function, with the walk that shows it; no condition beyond what each states. Written by a program of this session round the kit's printer. -/
import Derived.Test.YtelcdhjdlgedeaaDoorVPFnDocOkx0
import Derived.Test.YtelcdhjdlgedeaaDoorVPFnDocOkx8
import Derived.Test.YtelcdhjdlgedeaaDoorVPFnDocOkx12
namespace Go.Proofs.YtelcdhjdlgedeaaDoor.PFnDocOk
open Go.RowKit Go.Proofs.YtelcdhjdlgedeaaDoorW.PrintWords Go.Proofs.YtelcdhjdlgedeaaDoorW.PrintLast Go.Proofs.YtelcdhjdlgedeaaDoorW.PrintMore
attribute [local go_sem] run_str_geq run_str_leq max2_int min2_int max_two min_two max_three min_three max_four min_four   -- for this text's walks alone
set_option linter.unusedVariables false
set_option linter.unusedSimpArgs false

/-! ### spec_l2Form: function 65 -/
def spec_l2Form.l0 : Nat → Int → ByteArray → List (S46) → Option (Bool)
 | 0, _, _, _ => none
 | k + 1, x3, x411000, x411001 => if x3 < (x411001.length : Int) then (if 0 ≤ x3 then ((spec_NameOk.f k ((rd_T46 x411001 x3).f0)).bind fun t413 => (if t413 = true then ((spec_l2Text.f k ((rd_T46 x411001 x3).f1)).bind fun t415 => (if t415 = true then (if x3 > 0 then (if 0 ≤ (wrap64 (x3 - 1)) then (if (wrap64 (x3 - 1)) < (x411001.length : Int) then (if ((Op.bytesLess (((rd_T46 x411001 (wrap64 (x3 - 1))).f0).toList) (((rd_T46 x411001 x3).f0).toList)) = true) then (spec_l2Form.l0 k (wrap64 (x3 + 1)) x411000 x411001) else (some false)) else (none)) else (none)) else (spec_l2Form.l0 k (wrap64 (x3 + 1)) x411000 x411001)) else (some false))) else (some false))) else (none)) else ((spec_NameOk.f k x411000).bind fun t411 => (if t411 = true then (some (decide ((x411001.length : Int) ≤ 4))) else (some false)))
def spec_l2Form.f (k : Nat) (a0_0 : ByteArray) (l0_1 : List (S46)) : Option (Bool) := spec_l2Form.l0 k 0 a0_0 l0_1
theorem spec_l2Form.mono_l : ∀ k, (∀ y0 y1 y2, LeO (spec_l2Form.l0 k y0 y1 y2) (spec_l2Form.l0 (k + 1) y0 y1 y2))
 | 0 => fun _ _ _ r h => by simp [spec_l2Form.l0] at h
 | k + 1 => by
  have ih0 := spec_l2Form.mono_l k
  ·intro y0 y1 y2; unfold spec_l2Form.l0
   repeat' first
   | (with_reducible exact ih0 _ _ _)
   | (with_reducible exact spec_NameOk.mono _ _)
   | (with_reducible exact spec_l2Text.mono _ _)
   | (with_reducible exact LeO.refl _)
   | (with_reducible exact LeO.none _)
   | (with_reducible refine LeO.ite ?_ ?_)
   | (with_reducible refine LeO.bind ?_ (fun _ => ?_))
   | exact ih0 _ _ _
   | exact spec_NameOk.mono _ _
   | exact spec_l2Text.mono _ _
   | exact LeO.none _
   | refine LeO.ite ?_ ?_
   | refine LeO.bind ?_ (fun _ => ?_)
theorem spec_l2Form.mono : ∀ a0 a1 k, LeO (spec_l2Form.f k a0 a1) (spec_l2Form.f (k + 1) a0 a1) := by
 intro a0 a1 k; have ih0 := spec_l2Form.mono_l k; unfold spec_l2Form.f
 repeat' first
   | (with_reducible exact ih0 _ _ _)
   | (with_reducible exact spec_NameOk.mono _ _)
   | (with_reducible exact spec_l2Text.mono _ _)
   | (with_reducible exact LeO.refl _)
   | (with_reducible exact LeO.none _)
   | (with_reducible refine LeO.ite ?_ ?_)
   | (with_reducible refine LeO.bind ?_ (fun _ => ?_))
   | exact ih0 _ _ _
   | exact spec_NameOk.mono _ _
   | exact spec_l2Text.mono _ _
   | exact LeO.none _
   | refine LeO.ite ?_ ?_
   | refine LeO.bind ?_ (fun _ => ?_)
def spec_l2Form.T4 : Bool × List (List Nat × List Nat) := (true, [([], []), ([0], [0]), ([], []), ([1, 2], [1, 2]), ([3], [3]), ([4], [4]), ([5], [5]), ([6], [6]), ([7, 6], [7]), ([8], [8]), ([9, 8], [8, 9]), ([8], [8]), ([10, 11, 8], [8, 10, 11]), ([12, 8], [8, 12]), ([13, 8], [8, 13]), ([14, 8, 8], [8, 14]), ([15, 8], [8, 15]), ([8, 16], [8, 16]), ([17, 15], [17]), ([18], [18]), ([19, 18], [18, 19]), ([20, 18, 18], [18, 20]), ([21], [21]), ([22, 21], [21, 22]), ([21], [21]), ([24, 21], [21, 24]), ([23, 25, 21], [21, 23, 25]), ([26, 21], [21, 26]), ([27, 21], [21, 27]), ([21], [21]), ([29, 21], [21, 29]), ([21], [21]), ([30, 31, 21], [21, 30, 31]), ([32, 21], [21, 32]), ([33, 21], [21, 33]), ([28, 34, 21], [21, 28, 34]), ([21, 35, 18], [18, 21, 35]), ([18, 36], [18, 36])])
def spec_l2Form.B4 : List Nat := [0, 1, 0, 7, 15, 31, 63, 127, 255, 511, 1023, 511, 4095, 8191, 16383, 32767, 65535, 131071, 262143, 524287, 1048575, 2097151, 4194303, 8388607, 4194303, 20971519, 67108863, 134217727, 268435455, 4194303, 541065215, 4194303, 3762290687, 8057257983, 16647192575, 34359738367, 68719476735, 137438953471]
theorem spec_l2Form.tab4 : rtab .any (opsOf Tryd.f65 4) = spec_l2Form.T4 := by kernel_rfl
theorem spec_l2Form.bits4 : waitsOk spec_l2Form.T4.2 spec_l2Form.B4 = true := by kernel_rfl
set_option maxHeartbeats 8000000 in
set_option maxRecDepth 100000 in
theorem spec_l2Form.calls (k : Nat) (a0_0 : ByteArray) (A0_1 : Option Addr) (c0_1 : Nat) (l0_1 : List (S46)) (r : Bool) (w : World) (hr0_1 : Kd.C k46 w A0_1 l0_1.length l0_1) (hc0_1 : l0_1.length ≤ c0_1) (h : spec_l2Form.f k a0_0 l0_1 = some r) :
  Calls Tryd.prog 65 #[.agg #[.string a0_0, .slice A0_1 l0_1.length c0_1]] w fun e w' => e = .returned (.bool r) ∧ Below w.heap.size w w' := by
 have hu41 := Tryd.underlying41; have HR0_1 := am_ hr0_1; have HC0_1 := am_ hc0_1; clear hr0_1 hc0_1; have HB := am_ (Below.refl w.heap.size w); have H : (spec_l2Form.l0 k 0 a0_0 l0_1) = some r := h; clear h; have H' := am_ H; clear H; go_enter Tryd.func65, Tryd.ntmps65
 go_wp2_with (first | ((with_reducible refine gate_dst (N := 1) rfl ?_); (try (refine gate_guard u82_ ?_; dsimp only)); refine box_event ?hg (N := 1) ?hd (cs := #[.string a0_0, .slice A0_1 l0_1.length c0_1]) (t := 41) ?hr ?_; (case hd => rfl); (case hg => rfl); (case hr => exact u33_); intro gb410 hg w2 hbox hb; have BK410 := am_ (hbox); have GW410 := am_ ((by rw [hg]; exact (below_size u2_) : w.heap.size ≤ gb410)); have GE410 := GW410; replace HB := am_ (below_step u2_ hb); clear hb hbox hg))
 go_loopg [3] k (fun kq v3 w' => ∃ (x3_1 : Int), v3 = .int .i64 x3_1 ∧ Aside0 (spec_l2Form.l0 kq x3_1 a0_0 l0_1 = some r) ∧ Aside0 (kq ≤ k) ∧ Aside0 (w'.heap[gb410]? = some (.cells #[.string a0_0, (.slice A0_1 l0_1.length c0_1)] 41 (0, 0))) ∧ Aside0 (Below w.heap.size w w'))
 case atStart => exact ⟨(0), u35_, H', ⟨Nat.le_refl _⟩, ⟨u163_⟩, ⟨u80_⟩⟩
 case round =>
  clear H'; try clear p2
  obtain ⟨x3_1, rfl, HA, HK1, BK410, HB⟩ := hrel; cases gk with
  | zero => exact absurd HA.out (by simp [spec_l2Form.l0])
  | succ k1 =>
   have H := HA.out; clear HA; simp only [spec_l2Form.l0] at H; by_cases c3 : x3_1 < (l0_1.length : Int)
   ·rw [if_pos c3] at H; have c3b0 : decide (x3_1 < (l0_1.length : Int)) = true := decide_eq_true c3; clear c3; by_cases c4 : 0 ≤ x3_1
    ·rw [if_pos c4] at H; have c4b0 : decide (0 ≤ x3_1) = true := decide_eq_true c4; clear c4; replace H := Option.bind_eq_some_iff.mp H; obtain ⟨t413, A50, H⟩ := H; replace H : (if t413 = true then ((spec_l2Text.f k1 ((rd_T46 l0_1 x3_1).f1)).bind fun t415 => (if t415 = true then (if x3_1 > 0 then (if 0 ≤ (wrap64 (x3_1 - 1)) then (if (wrap64 (x3_1 - 1)) < (l0_1.length : Int) then (if ((Op.bytesLess (((rd_T46 l0_1 (wrap64 (x3_1 - 1))).f0).toList) (((rd_T46 l0_1 x3_1).f0).toList)) = true) then (spec_l2Form.l0 k1 (wrap64 (x3_1 + 1)) a0_0 l0_1) else (some false)) else (none)) else (none)) else (spec_l2Form.l0 k1 (wrap64 (x3_1 + 1)) a0_0 l0_1)) else (some false))) else (some false)) = some r := H; have A5 := am_ A50; clear A50; by_cases c6 : t413 = true
     ·subst c6; rw [if_pos rfl] at H; replace H := Option.bind_eq_some_iff.mp H; obtain ⟨t415, A70, H⟩ := H; replace H : (if t415 = true then (if x3_1 > 0 then (if 0 ≤ (wrap64 (x3_1 - 1)) then (if (wrap64 (x3_1 - 1)) < (l0_1.length : Int) then (if ((Op.bytesLess (((rd_T46 l0_1 (wrap64 (x3_1 - 1))).f0).toList) (((rd_T46 l0_1 x3_1).f0).toList)) = true) then (spec_l2Form.l0 k1 (wrap64 (x3_1 + 1)) a0_0 l0_1) else (some false)) else (none)) else (none)) else (spec_l2Form.l0 k1 (wrap64 (x3_1 + 1)) a0_0 l0_1)) else (some false)) = some r := H; have A7 := am_ A70; clear A70; by_cases c8 : t415 = true
      ·subst c8; rw [if_pos rfl] at H; by_cases c9 : x3_1 > 0
       ·rw [if_pos c9] at H; have c9b0 : decide (0 < x3_1) = true := decide_eq_true c9; clear c9; obtain ⟨ji10, hji10⟩ : ∃ j_ : Int, (wrap64 (x3_1 - 1)) = j_ := ⟨_, rfl⟩; replace H : (if 0 ≤ (ji10) then (if (ji10) < (l0_1.length : Int) then (if ((Op.bytesLess (((rd_T46 l0_1 (ji10)).f0).toList) (((rd_T46 l0_1 x3_1).f0).toList)) = true) then (spec_l2Form.l0 k1 (wrap64 (x3_1 + 1)) a0_0 l0_1) else (some false)) else (none)) else (none)) = some r := by first | (rw [hji10] at H; exact H) | (simp only [hji10] at H ⊢; exact H)
        (try rw [hji10] at A5)
        (try rw [hji10] at A7)
        have hji10w : (IntKind.i64.wrap (x3_1 - 1)) = ji10 := (i64_w _).trans hji10; by_cases c11 : 0 ≤ (ji10)
        ·rw [if_pos c11] at H; have c11b0 : decide (0 ≤ (ji10)) = true := decide_eq_true c11; clear c11; by_cases c12 : (ji10) < (l0_1.length : Int)
         ·rw [if_pos c12] at H; have c12b0 : decide ((ji10) < (l0_1.length : Int)) = true := decide_eq_true c12; clear c12; by_cases c13 : ((Op.bytesLess (((rd_T46 l0_1 (ji10)).f0).toList) (((rd_T46 l0_1 x3_1).f0).toList)) = true)
          ·rw [if_pos c13] at H; have c13b0 : (Op.bytesLess (((rd_T46 l0_1 (ji10)).f0).toList) (((rd_T46 l0_1 x3_1).f0).toList)) = true := c13; clear c13; have H' := am_ H; clear H; have hcz14_0 : wr.cell? ⟨gb410, 0, none⟩ = some (.string a0_0) := (blk_cell BK410.out 0).trans rfl; have hcz14_1 : wr.cell? ⟨gb410, 1, none⟩ = some (.slice A0_1 l0_1.length c0_1) := (blk_cell BK410.out 1).trans rfl; have hfz14_0 := blk_frozen BK410.out 0; have hfz14_1 := blk_frozen BK410.out 1; try go_wp2
           replace BK410 := am_ (blk_drew BK410.out); replace HB := am_ (below_drew1 HB.out); have p412 : 0 ≤ (x3_1 : Int) := of_decide_eq_true u5_; have q412 : x3_1 < (l0_1.length : Int) := of_decide_eq_true u5_; obtain ⟨ad412, e412, hx412_0, hx412_1⟩ := at_T46 HR0_1.out x3_1 p412 q412; have hw412_1 := hx412_1; have hw412_0 := hx412_0; cases e412; replace hx412_0 := (HB.out.cell (World.block_lt_of_cell? w _ hx412_0)).trans hx412_0; replace hx412_1 := (HB.out.cell (World.block_lt_of_cell? w _ hx412_1)).trans hx412_1; replace p412 := eq_true p412; replace q412 := eq_true q412; have p414 : 0 ≤ (x3_1 : Int) := of_decide_eq_true u5_; have q414 : x3_1 < (l0_1.length : Int) := of_decide_eq_true u5_; obtain ⟨ad414, e414, hx414_0, hx414_1⟩ := at_T46 HR0_1.out x3_1 p414 q414; have hw414_1 := hx414_1; have hw414_0 := hx414_0; obtain rfl : ad412 = ad414 := (by injection e414); replace hx414_0 := (HB.out.cell (World.block_lt_of_cell? w _ hx414_0)).trans hx414_0; replace hx414_1 := (HB.out.cell (World.block_lt_of_cell? w _ hx414_1)).trans hx414_1; replace p414 := eq_true p414; replace q414 := eq_true q414; have p416 : 0 ≤ ((ji10) : Int) := of_decide_eq_true u5_; have q416 : (ji10) < (l0_1.length : Int) := of_decide_eq_true u5_; obtain ⟨ad416, e416, hx416_0, hx416_1⟩ := at_T46 HR0_1.out (ji10) p416 q416; have hw416_1 := hx416_1; have hw416_0 := hx416_0; obtain rfl : ad412 = ad416 := (by injection e416); replace hx416_0 := (HB.out.cell (World.block_lt_of_cell? w _ hx416_0)).trans hx416_0; replace hx416_1 := (HB.out.cell (World.block_lt_of_cell? w _ hx416_1)).trans hx416_1; replace p416 := eq_true p416; replace q416 := eq_true q416; have p417 : 0 ≤ (x3_1 : Int) := of_decide_eq_true u5_; have q417 : x3_1 < (l0_1.length : Int) := of_decide_eq_true u5_; obtain ⟨ad417, e417, hx417_0, hx417_1⟩ := at_T46 HR0_1.out x3_1 p417 q417; have hw417_1 := hx417_1; have hw417_0 := hx417_0; obtain rfl : ad412 = ad417 := (by injection e417); replace hx417_0 := (HB.out.cell (World.block_lt_of_cell? w _ hx417_0)).trans hx417_0; replace hx417_1 := (HB.out.cell (World.block_lt_of_cell? w _ hx417_1)).trans hx417_1; replace p417 := eq_true p417; replace q417 := eq_true q417; refine start_ (n := 38) (S := fun w' => w'.cell? ⟨gb410, 0, none⟩ = some (.string a0_0) ∧ w'.cell? ⟨gb410, 1, none⟩ = some (.slice (some ad412) l0_1.length c0_1) ∧ w'.cell? (ad412.add ((x3_1).toNat * 2)) = some (.string ((rd_T46 l0_1 x3_1).f0)) ∧ w'.cell? ⟨(ad412.add ((x3_1).toNat * 2)).block, (ad412.add ((x3_1).toNat * 2)).off + 1, none⟩ = some (.string ((rd_T46 l0_1 x3_1).f1)) ∧ w'.cell? (ad412.add ((x3_1).toNat * 2)) = some (.string ((rd_T46 l0_1 x3_1).f0)) ∧ w'.cell? ⟨(ad412.add ((x3_1).toNat * 2)).block, (ad412.add ((x3_1).toNat * 2)).off + 1, none⟩ = some (.string ((rd_T46 l0_1 x3_1).f1)) ∧ w'.cell? (ad412.add (((ji10)).toNat * 2)) = some (.string ((rd_T46 l0_1 (ji10)).f0)) ∧ w'.cell? ⟨(ad412.add (((ji10)).toNat * 2)).block, (ad412.add (((ji10)).toNat * 2)).off + 1, none⟩ = some (.string ((rd_T46 l0_1 (ji10)).f1)) ∧ w'.cell? (ad412.add ((x3_1).toNat * 2)) = some (.string ((rd_T46 l0_1 x3_1).f0)) ∧ w'.cell? ⟨(ad412.add ((x3_1).toNat * 2)).block, (ad412.add ((x3_1).toNat * 2)).off + 1, none⟩ = some (.string ((rd_T46 l0_1 x3_1).f1))) (ds := []) (bm_ 38 0) u23_ rfl rfl ⟨(blk_cell BK410.out 0).trans rfl, (blk_cell BK410.out 1).trans rfl, ((HB.out.cell (World.block_lt_of_cell? w _ hw412_0)).trans hw412_0), ((HB.out.cell (World.block_lt_of_cell? w _ hw412_1)).trans hw412_1), ((HB.out.cell (World.block_lt_of_cell? w _ hw414_0)).trans hw414_0), ((HB.out.cell (World.block_lt_of_cell? w _ hw414_1)).trans hw414_1), ((HB.out.cell (World.block_lt_of_cell? w _ hw416_0)).trans hw416_0), ((HB.out.cell (World.block_lt_of_cell? w _ hw416_1)).trans hw416_1), ((HB.out.cell (World.block_lt_of_cell? w _ hw417_0)).trans hw417_0), ((HB.out.cell (World.block_lt_of_cell? w _ hw417_1)).trans hw417_1)⟩ (fun hHeld => ?_); refine with_tabW spec_l2Form.tab4 spec_l2Form.bits4 (fun HT_ HW_ => ?_); generalize wr.drew = w15 at BK410 HB hx412_0 hx412_1 hx414_0 hx414_1 hx416_0 hx416_1 hx417_0 hx417_1 hHeld ⊢; refine pure_ (i := 0) (N := some 11) (v := ?_) (a' := ?_) (bm_ 38 1) rfl rfl (any_of HT_.out u23_) (fun _ _ _ h => h) (Or.inl ⟨u82_, ?_⟩) ?_ ?_; rotate_left
           ·exact u22_
           rotate_left
           ·exact u0_
           refine pure_ (i := 2) (N := some 13) (v := ?_) (a' := ?_) (bm_ 38 5) rfl rfl (any_of HT_.out u23_) (fun _ _ _ h => h) (Or.inl ⟨u82_, ?_⟩) ?_ ?_; rotate_left
           ·exact u22_
           rotate_left
           ·exact u0_
           refine take_ (i := 1) (N := some 12) (v := ?_) (a' := ?_) (bm_ 38 7) rfl rfl (take_ofW HT_.out HW_.out u23_) (fun _ _ _ h => h) (Or.inl ⟨u82_, ?_⟩) hHeld ?_ ?_; rotate_left
           ·exact u79_
           rotate_left
           ·exact u0_
           refine pure_ (i := 3) (N := some 14) (v := ?_) (a' := ?_) (bm_ 38 15) rfl rfl (any_of HT_.out u23_) (fun _ _ _ h => h) (Or.inl ⟨u82_, ?_⟩) ?_ ?_; rotate_left
           ·exact u22_
           rotate_left
           ·exact u0_
           refine pure_ (i := 4) (N := some 15) (v := ?_) (a' := ?_) (bm_ 38 31) rfl rfl (any_of HT_.out u23_) (fun _ _ _ h => h) (Or.inl ⟨u82_, ?_⟩) ?_ ?_; rotate_left
           ·exact u22_
           rotate_left
           ·exact u0_
           refine take_ (i := 5) (N := some 16) (v := ?_) (a' := ?_) (bm_ 38 63) rfl rfl (take_ofW HT_.out HW_.out u23_) (fun _ _ _ h => h) (Or.inl ⟨u82_, ?_⟩) hHeld ?_ ?_; rotate_left
           ·exact u79_
           rotate_left
           ·exact u0_
           refine one_ (i := 6) (N := some 17) (bm_ 38 127) rfl rfl (one_of HT_.out u23_) u52_ (fun K hK => ?_); refine goes_ Tryd.func69 u23_ rfl #[.string ((rd_T46 l0_1 x3_1).f0)] u82_ rfl rfl u1_ ?_; with_reducible refine (spec_NameOk.calls k1 ((rd_T46 l0_1 x3_1).f0) true _ A5.out).mono ?_
           rintro e w' ⟨rfl, ⟨nd, rfl⟩⟩; refine ⟨_, rfl, ?_⟩; refine hK.out _ _ ⟨(blk_cell BK410.out 0).trans rfl, (blk_cell BK410.out 1).trans rfl, ((HB.out.cell (World.block_lt_of_cell? w _ hw412_0)).trans hw412_0), ((HB.out.cell (World.block_lt_of_cell? w _ hw412_1)).trans hw412_1), ((HB.out.cell (World.block_lt_of_cell? w _ hw414_0)).trans hw414_0), ((HB.out.cell (World.block_lt_of_cell? w _ hw414_1)).trans hw414_1), ((HB.out.cell (World.block_lt_of_cell? w _ hw416_0)).trans hw416_0), ((HB.out.cell (World.block_lt_of_cell? w _ hw416_1)).trans hw416_1), ((HB.out.cell (World.block_lt_of_cell? w _ hw417_0)).trans hw417_0), ((HB.out.cell (World.block_lt_of_cell? w _ hw417_1)).trans hw417_1)⟩ (fun hHeld => ?_); clear hK K; refine norm_ (a' := ?_) ?_ ?_; rotate_left
           ·show Act.put _ (some 17) _ = _
            simp only [Act.put, List.setIfInBounds_toArray, List.set_cons_zero, List.set_cons_succ, i64_w, i32_w]; rfl
           refine pure_ (i := 7) (N := some 18) (v := ?_) (a' := ?_) (bm_ 38 255) rfl rfl (any_of HT_.out u23_) (fun _ _ _ h => h) (Or.inl ⟨u82_, ?_⟩) ?_ ?_; rotate_left
           ·exact u22_
           rotate_left
           ·exact u0_
           refine pure_ (i := 8) (N := some 19) (v := ?_) (a' := ?_) (bm_ 38 511) rfl rfl (any_of HT_.out u23_) (fun _ _ _ h => h) (Or.inl ⟨u82_, ?_⟩) ?_ ?_; rotate_left
           ·exact u22_
           rotate_left
           ·exact u0_
           refine pure_ (i := 9) (N := some 20) (v := ?_) (a' := ?_) (bm_ 38 1023) rfl rfl (any_of HT_.out u23_) (fun _ _ _ h => h) (Or.inl ⟨u82_, ?_⟩) ?_ ?_; rotate_left
           ·exact u22_
           rotate_left
           ·exact u0_
           refine pure_ (i := 11) (N := some 22) (v := ?_) (a' := ?_) (bm_ 38 3071) rfl rfl (any_of HT_.out u23_) (fun _ _ _ h => h) (Or.inl ⟨u82_, ?_⟩) ?_ ?_; rotate_left
           ·exact u22_
           rotate_left
           ·exact u0_
           refine take_ (i := 10) (N := some 21) (v := ?_) (a' := ?_) (bm_ 38 4095) rfl rfl (take_ofW HT_.out HW_.out u23_) (fun _ _ _ h => h) (Or.inl ⟨u82_, ?_⟩) hHeld ?_ ?_; rotate_left
           ·exact u79_
           rotate_left
           ·exact u0_
           refine pure_ (i := 12) (N := some 23) (v := ?_) (a' := ?_) (bm_ 38 8191) rfl rfl (any_of HT_.out u23_) (fun _ _ _ h => h) (Or.inl ⟨u82_, ?_⟩) ?_ ?_; rotate_left
           ·exact u22_
           rotate_left
           ·exact u0_
           refine pure_ (i := 13) (N := some 24) (v := ?_) (a' := ?_) (bm_ 38 16383) rfl rfl (any_of HT_.out u23_) (fun _ _ _ h => h) (Or.inl ⟨u82_, ?_⟩) ?_ ?_; rotate_left
           ·exact u22_
           rotate_left
           ·exact u0_
           refine take_ (i := 14) (N := some 25) (v := ?_) (a' := ?_) (bm_ 38 32767) rfl rfl (take_ofW HT_.out HW_.out u23_) (fun _ _ _ h => h) (Or.inl ⟨u82_, ?_⟩) hHeld ?_ ?_; rotate_left
           ·exact u79_
           rotate_left
           ·exact u0_
           refine one_ (i := 15) (N := some 26) (bm_ 38 65535) rfl rfl (one_of HT_.out u23_) u52_ (fun K hK => ?_); refine goes_ Tryd.func92 u23_ rfl #[.string ((rd_T46 l0_1 x3_1).f1)] u82_ rfl rfl u1_ ?_; with_reducible refine (spec_l2Text.calls k1 ((rd_T46 l0_1 x3_1).f1) true _ A7.out).mono ?_
           rintro e w' ⟨rfl, ⟨nd, rfl⟩⟩; refine ⟨_, rfl, ?_⟩; refine hK.out _ _ ⟨(blk_cell BK410.out 0).trans rfl, (blk_cell BK410.out 1).trans rfl, ((HB.out.cell (World.block_lt_of_cell? w _ hw412_0)).trans hw412_0), ((HB.out.cell (World.block_lt_of_cell? w _ hw412_1)).trans hw412_1), ((HB.out.cell (World.block_lt_of_cell? w _ hw414_0)).trans hw414_0), ((HB.out.cell (World.block_lt_of_cell? w _ hw414_1)).trans hw414_1), ((HB.out.cell (World.block_lt_of_cell? w _ hw416_0)).trans hw416_0), ((HB.out.cell (World.block_lt_of_cell? w _ hw416_1)).trans hw416_1), ((HB.out.cell (World.block_lt_of_cell? w _ hw417_0)).trans hw417_0), ((HB.out.cell (World.block_lt_of_cell? w _ hw417_1)).trans hw417_1)⟩ (fun hHeld => ?_); clear hK K; refine norm_ (a' := ?_) ?_ ?_; rotate_left
           ·show Act.put _ (some 26) _ = _
            simp only [Act.put, List.setIfInBounds_toArray, List.set_cons_zero, List.set_cons_succ, i64_w, i32_w]; rfl
           refine pure_ (i := 16) (N := some 27) (v := ?_) (a' := ?_) (bm_ 38 131071) rfl rfl (any_of HT_.out u23_) (fun _ _ _ h => h) (Or.inl ⟨u82_, ?_⟩) ?_ ?_; rotate_left
           ·exact u22_
           rotate_left
           ·exact u0_
           refine pure_ (i := 17) (N := some 28) (v := ?_) (a' := ?_) (bm_ 38 262143) rfl rfl (any_of HT_.out u23_) (fun _ _ _ h => h) (Or.inl ⟨u82_, ?_⟩) ?_ ?_; rotate_left
           ·exact u22_
           rotate_left
           ·exact u0_
           refine pure_ (i := 18) (N := some 29) (v := ?_) (a' := ?_) (bm_ 38 524287) rfl rfl (any_of HT_.out u23_) (fun _ _ _ h => h) (Or.inl ⟨u82_, ?_⟩) ?_ ?_; rotate_left
           ·exact u22_
           rotate_left
           ·exact u0_
           refine pure_ (i := 19) (N := some 30) (v := ?_) (a' := ?_) (bm_ 38 1048575) rfl rfl (any_of HT_.out u23_) (fun _ _ _ h => h) (Or.inl ⟨u82_, ?_⟩) ?_ ?_; rotate_left
           ·exact u22_
           rotate_left
           ·exact u0_
           refine pure_ (i := 20) (N := some 31) (v := ?_) (a' := ?_) (bm_ 38 2097151) rfl rfl (any_of HT_.out u23_) (fun _ _ _ h => h) (Or.inl ⟨u82_, ?_⟩) ?_ ?_; rotate_left
           ·exact u22_
           rotate_left
           ·exact u0_
           refine pure_ (i := 21) (N := some 32) (v := ?_) (a' := ?_) (bm_ 38 4194303) rfl rfl (any_of HT_.out u23_) (fun _ _ _ h => h) (Or.inl ⟨u82_, ?_⟩) ?_ ?_; rotate_left
           ·exact u22_
           rotate_left
           ·exact u0_
           refine pure_ (i := 22) (N := some 33) (v := ?_) (a' := ?_) (bm_ 38 8388607) rfl rfl (any_of HT_.out u23_) (fun _ _ _ h => h) (Or.inl ⟨u82_, ?_⟩) ?_ ?_; rotate_left
           ·exact u22_
           rotate_left
           ·exact u0_
           refine pure_ (i := 24) (N := some 35) (v := ?_) (a' := ?_) (bm_ 38 25165823) rfl rfl (any_of HT_.out u23_) (fun _ _ _ h => h) (Or.inl ⟨u82_, ?_⟩) ?_ ?_; rotate_left
           ·exact u22_
           rotate_left
           ·exact u0_
           refine pure_ (i := 25) (N := some 36) (v := ?_) (a' := ?_) (bm_ 38 58720255) rfl rfl (any_of HT_.out u23_) (fun _ _ _ h => h) (Or.inl ⟨u82_, ?_⟩) ?_ ?_; rotate_left
           ·exact u22_
           rotate_left
           ·exact u0_
           refine pure_ (i := 29) (N := some 40) (v := ?_) (a' := ?_) (bm_ 38 595591167) rfl rfl (any_of HT_.out u23_) (fun _ _ _ h => h) (Or.inl ⟨u82_, ?_⟩) ?_ ?_; rotate_left
           ·exact u22_
           rotate_left
           ·exact u0_
           refine pure_ (i := 31) (N := some 42) (v := ?_) (a' := ?_) (bm_ 38 2743074815) rfl rfl (any_of HT_.out u23_) (fun _ _ _ h => h) (Or.inl ⟨u82_, ?_⟩) ?_ ?_; rotate_left
           ·exact u22_
           rotate_left
           ·exact u0_
           refine take_ (i := 23) (N := some 34) (v := ?_) (a' := ?_) (bm_ 38 2751463423) rfl rfl (take_ofW HT_.out HW_.out u23_) (fun _ _ _ h => h) (Or.inl ⟨u82_, ?_⟩) hHeld ?_ ?_; rotate_left
           ·exact u79_
           rotate_left
           ·exact u0_
           refine pure_ (i := 26) (N := some 37) (v := ?_) (a' := ?_) (bm_ 38 2818572287) rfl rfl (any_of HT_.out u23_) (fun _ _ _ h => h) (Or.inl ⟨u82_, ?_⟩) ?_ ?_; rotate_left
           ·exact u22_
           rotate_left
           ·exact u0_
           refine pure_ (i := 27) (N := some 38) (v := ?_) (a' := ?_) (bm_ 38 2952790015) rfl rfl (any_of HT_.out u23_) (fun _ _ _ h => h) (Or.inl ⟨u82_, ?_⟩) ?_ ?_; rotate_left
           ·exact u22_
           rotate_left
           ·exact u0_
           refine take_ (i := 28) (N := some 39) (v := ?_) (a' := ?_) (bm_ 38 3221225471) rfl rfl (take_ofW HT_.out HW_.out u23_) (fun _ _ _ h => h) (Or.inl ⟨u82_, ?_⟩) hHeld ?_ ?_; rotate_left
           ·exact u79_
           rotate_left
           ·exact u0_
           refine take_ (i := 30) (N := some 41) (v := ?_) (a' := ?_) (bm_ 38 4294967295) rfl rfl (take_ofW HT_.out HW_.out u23_) (fun _ _ _ h => h) (Or.inl ⟨u82_, ?_⟩) hHeld ?_ ?_; rotate_left
           ·exact u79_
           rotate_left
           ·exact u0_
           refine pure_ (i := 32) (N := some 43) (v := ?_) (a' := ?_) (bm_ 38 8589934591) rfl rfl (any_of HT_.out u23_) (fun _ _ _ h => h) (Or.inl ⟨u82_, ?_⟩) ?_ ?_; rotate_left
           ·exact u22_
           rotate_left
           ·exact u0_
           refine pure_ (i := 33) (N := some 44) (v := ?_) (a' := ?_) (bm_ 38 17179869183) rfl rfl (any_of HT_.out u23_) (fun _ _ _ h => h) (Or.inl ⟨u82_, ?_⟩) ?_ ?_; rotate_left
           ·exact u22_
           rotate_left
           ·exact u0_
           refine take_ (i := 34) (N := some 45) (v := ?_) (a' := ?_) (bm_ 38 34359738367) rfl rfl (take_ofW HT_.out HW_.out u23_) (fun _ _ _ h => h) (Or.inl ⟨u82_, ?_⟩) hHeld ?_ ?_; rotate_left
           ·exact u79_
           rotate_left
           ·exact u0_
           refine pure_ (i := 35) (N := some 46) (v := ?_) (a' := ?_) (bm_ 38 68719476735) rfl rfl (any_of HT_.out u23_) (fun _ _ _ h => h) (Or.inl ⟨u82_, ?_⟩) ?_ ?_; rotate_left
           ·exact u22_
           rotate_left
           ·exact u0_
           refine pure_ (i := 36) (N := some 47) (v := ?_) (a' := ?_) (bm_ 38 137438953471) rfl rfl (any_of HT_.out u23_) (fun _ _ _ h => h) (Or.inl ⟨u82_, ?_⟩) ?_ ?_; rotate_left
           ·exact u22_
           rotate_left
           ·exact u0_
           refine pure_ (i := 37) (N := some 48) (v := ?_) (a' := ?_) (bm_ 38 274877906943) rfl rfl (any_of HT_.out u23_) (fun _ _ _ h => h) (Or.inl ⟨u82_, ?_⟩) ?_ ?_; rotate_left
           ·exact u22_
           rotate_left
           ·exact u0_
           refine done_ (done_of HT_.out u23_) ?_; try go_wp2
           go_roundg k1
           case measure => have := HK1.out; omega
           case rel => exact ⟨(wrap64 (x3_1 + 1)), u35_, H', ⟨u131_⟩, ⟨u163_⟩, ⟨u80_⟩⟩
          ·rw [if_neg c13] at H; have c13b0 : (Op.bytesLess (((rd_T46 l0_1 (ji10)).f0).toList) (((rd_T46 l0_1 x3_1).f0).toList)) = false := by simpa using c13
           clear c13; obtain rfl := Option.some.inj H; have hcz16_0 : wr.cell? ⟨gb410, 0, none⟩ = some (.string a0_0) := (blk_cell BK410.out 0).trans rfl; have hcz16_1 : wr.cell? ⟨gb410, 1, none⟩ = some (.slice A0_1 l0_1.length c0_1) := (blk_cell BK410.out 1).trans rfl; have hfz16_0 := blk_frozen BK410.out 0; have hfz16_1 := blk_frozen BK410.out 1; try go_wp2
           replace BK410 := am_ (blk_drew BK410.out); replace HB := am_ (below_drew1 HB.out); have p412 : 0 ≤ (x3_1 : Int) := of_decide_eq_true u5_; have q412 : x3_1 < (l0_1.length : Int) := of_decide_eq_true u5_; obtain ⟨ad412, e412, hx412_0, hx412_1⟩ := at_T46 HR0_1.out x3_1 p412 q412; have hw412_1 := hx412_1; have hw412_0 := hx412_0; cases e412; replace hx412_0 := (HB.out.cell (World.block_lt_of_cell? w _ hx412_0)).trans hx412_0; replace hx412_1 := (HB.out.cell (World.block_lt_of_cell? w _ hx412_1)).trans hx412_1; replace p412 := eq_true p412; replace q412 := eq_true q412; have p414 : 0 ≤ (x3_1 : Int) := of_decide_eq_true u5_; have q414 : x3_1 < (l0_1.length : Int) := of_decide_eq_true u5_; obtain ⟨ad414, e414, hx414_0, hx414_1⟩ := at_T46 HR0_1.out x3_1 p414 q414; have hw414_1 := hx414_1; have hw414_0 := hx414_0; obtain rfl : ad412 = ad414 := (by injection e414); replace hx414_0 := (HB.out.cell (World.block_lt_of_cell? w _ hx414_0)).trans hx414_0; replace hx414_1 := (HB.out.cell (World.block_lt_of_cell? w _ hx414_1)).trans hx414_1; replace p414 := eq_true p414; replace q414 := eq_true q414; have p416 : 0 ≤ ((ji10) : Int) := of_decide_eq_true u5_; have q416 : (ji10) < (l0_1.length : Int) := of_decide_eq_true u5_; obtain ⟨ad416, e416, hx416_0, hx416_1⟩ := at_T46 HR0_1.out (ji10) p416 q416; have hw416_1 := hx416_1; have hw416_0 := hx416_0; obtain rfl : ad412 = ad416 := (by injection e416); replace hx416_0 := (HB.out.cell (World.block_lt_of_cell? w _ hx416_0)).trans hx416_0; replace hx416_1 := (HB.out.cell (World.block_lt_of_cell? w _ hx416_1)).trans hx416_1; replace p416 := eq_true p416; replace q416 := eq_true q416; have p417 : 0 ≤ (x3_1 : Int) := of_decide_eq_true u5_; have q417 : x3_1 < (l0_1.length : Int) := of_decide_eq_true u5_; obtain ⟨ad417, e417, hx417_0, hx417_1⟩ := at_T46 HR0_1.out x3_1 p417 q417; have hw417_1 := hx417_1; have hw417_0 := hx417_0; obtain rfl : ad412 = ad417 := (by injection e417); replace hx417_0 := (HB.out.cell (World.block_lt_of_cell? w _ hx417_0)).trans hx417_0; replace hx417_1 := (HB.out.cell (World.block_lt_of_cell? w _ hx417_1)).trans hx417_1; replace p417 := eq_true p417; replace q417 := eq_true q417; refine start_ (n := 38) (S := fun w' => w'.cell? ⟨gb410, 0, none⟩ = some (.string a0_0) ∧ w'.cell? ⟨gb410, 1, none⟩ = some (.slice (some ad412) l0_1.length c0_1) ∧ w'.cell? (ad412.add ((x3_1).toNat * 2)) = some (.string ((rd_T46 l0_1 x3_1).f0)) ∧ w'.cell? ⟨(ad412.add ((x3_1).toNat * 2)).block, (ad412.add ((x3_1).toNat * 2)).off + 1, none⟩ = some (.string ((rd_T46 l0_1 x3_1).f1)) ∧ w'.cell? (ad412.add ((x3_1).toNat * 2)) = some (.string ((rd_T46 l0_1 x3_1).f0)) ∧ w'.cell? ⟨(ad412.add ((x3_1).toNat * 2)).block, (ad412.add ((x3_1).toNat * 2)).off + 1, none⟩ = some (.string ((rd_T46 l0_1 x3_1).f1)) ∧ w'.cell? (ad412.add (((ji10)).toNat * 2)) = some (.string ((rd_T46 l0_1 (ji10)).f0)) ∧ w'.cell? ⟨(ad412.add (((ji10)).toNat * 2)).block, (ad412.add (((ji10)).toNat * 2)).off + 1, none⟩ = some (.string ((rd_T46 l0_1 (ji10)).f1)) ∧ w'.cell? (ad412.add ((x3_1).toNat * 2)) = some (.string ((rd_T46 l0_1 x3_1).f0)) ∧ w'.cell? ⟨(ad412.add ((x3_1).toNat * 2)).block, (ad412.add ((x3_1).toNat * 2)).off + 1, none⟩ = some (.string ((rd_T46 l0_1 x3_1).f1))) (ds := []) (bm_ 38 0) u23_ rfl rfl ⟨(blk_cell BK410.out 0).trans rfl, (blk_cell BK410.out 1).trans rfl, ((HB.out.cell (World.block_lt_of_cell? w _ hw412_0)).trans hw412_0), ((HB.out.cell (World.block_lt_of_cell? w _ hw412_1)).trans hw412_1), ((HB.out.cell (World.block_lt_of_cell? w _ hw414_0)).trans hw414_0), ((HB.out.cell (World.block_lt_of_cell? w _ hw414_1)).trans hw414_1), ((HB.out.cell (World.block_lt_of_cell? w _ hw416_0)).trans hw416_0), ((HB.out.cell (World.block_lt_of_cell? w _ hw416_1)).trans hw416_1), ((HB.out.cell (World.block_lt_of_cell? w _ hw417_0)).trans hw417_0), ((HB.out.cell (World.block_lt_of_cell? w _ hw417_1)).trans hw417_1)⟩ (fun hHeld => ?_); refine with_tabW spec_l2Form.tab4 spec_l2Form.bits4 (fun HT_ HW_ => ?_); generalize wr.drew = w17 at BK410 HB hx412_0 hx412_1 hx414_0 hx414_1 hx416_0 hx416_1 hx417_0 hx417_1 hHeld ⊢; refine pure_ (i := 0) (N := some 11) (v := ?_) (a' := ?_) (bm_ 38 1) rfl rfl (any_of HT_.out u23_) (fun _ _ _ h => h) (Or.inl ⟨u82_, ?_⟩) ?_ ?_; rotate_left
           ·exact u22_
           rotate_left
           ·exact u0_
           refine pure_ (i := 2) (N := some 13) (v := ?_) (a' := ?_) (bm_ 38 5) rfl rfl (any_of HT_.out u23_) (fun _ _ _ h => h) (Or.inl ⟨u82_, ?_⟩) ?_ ?_; rotate_left
           ·exact u22_
           rotate_left
           ·exact u0_
           refine take_ (i := 1) (N := some 12) (v := ?_) (a' := ?_) (bm_ 38 7) rfl rfl (take_ofW HT_.out HW_.out u23_) (fun _ _ _ h => h) (Or.inl ⟨u82_, ?_⟩) hHeld ?_ ?_; rotate_left
           ·exact u79_
           rotate_left
           ·exact u0_
           refine pure_ (i := 3) (N := some 14) (v := ?_) (a' := ?_) (bm_ 38 15) rfl rfl (any_of HT_.out u23_) (fun _ _ _ h => h) (Or.inl ⟨u82_, ?_⟩) ?_ ?_; rotate_left
           ·exact u22_
           rotate_left
           ·exact u0_
           refine pure_ (i := 4) (N := some 15) (v := ?_) (a' := ?_) (bm_ 38 31) rfl rfl (any_of HT_.out u23_) (fun _ _ _ h => h) (Or.inl ⟨u82_, ?_⟩) ?_ ?_; rotate_left
           ·exact u22_
           rotate_left
           ·exact u0_
           refine take_ (i := 5) (N := some 16) (v := ?_) (a' := ?_) (bm_ 38 63) rfl rfl (take_ofW HT_.out HW_.out u23_) (fun _ _ _ h => h) (Or.inl ⟨u82_, ?_⟩) hHeld ?_ ?_; rotate_left
           ·exact u79_
           rotate_left
           ·exact u0_
           refine one_ (i := 6) (N := some 17) (bm_ 38 127) rfl rfl (one_of HT_.out u23_) u52_ (fun K hK => ?_); refine goes_ Tryd.func69 u23_ rfl #[.string ((rd_T46 l0_1 x3_1).f0)] u82_ rfl rfl u1_ ?_; with_reducible refine (spec_NameOk.calls k1 ((rd_T46 l0_1 x3_1).f0) true _ A5.out).mono ?_
           rintro e w' ⟨rfl, ⟨nd, rfl⟩⟩; refine ⟨_, rfl, ?_⟩; refine hK.out _ _ ⟨(blk_cell BK410.out 0).trans rfl, (blk_cell BK410.out 1).trans rfl, ((HB.out.cell (World.block_lt_of_cell? w _ hw412_0)).trans hw412_0), ((HB.out.cell (World.block_lt_of_cell? w _ hw412_1)).trans hw412_1), ((HB.out.cell (World.block_lt_of_cell? w _ hw414_0)).trans hw414_0), ((HB.out.cell (World.block_lt_of_cell? w _ hw414_1)).trans hw414_1), ((HB.out.cell (World.block_lt_of_cell? w _ hw416_0)).trans hw416_0), ((HB.out.cell (World.block_lt_of_cell? w _ hw416_1)).trans hw416_1), ((HB.out.cell (World.block_lt_of_cell? w _ hw417_0)).trans hw417_0), ((HB.out.cell (World.block_lt_of_cell? w _ hw417_1)).trans hw417_1)⟩ (fun hHeld => ?_); clear hK K; refine norm_ (a' := ?_) ?_ ?_; rotate_left
           ·show Act.put _ (some 17) _ = _
            simp only [Act.put, List.setIfInBounds_toArray, List.set_cons_zero, List.set_cons_succ, i64_w, i32_w]; rfl
           refine pure_ (i := 7) (N := some 18) (v := ?_) (a' := ?_) (bm_ 38 255) rfl rfl (any_of HT_.out u23_) (fun _ _ _ h => h) (Or.inl ⟨u82_, ?_⟩) ?_ ?_; rotate_left
           ·exact u22_
           rotate_left
           ·exact u0_
           refine pure_ (i := 8) (N := some 19) (v := ?_) (a' := ?_) (bm_ 38 511) rfl rfl (any_of HT_.out u23_) (fun _ _ _ h => h) (Or.inl ⟨u82_, ?_⟩) ?_ ?_; rotate_left
           ·exact u22_
           rotate_left
           ·exact u0_
           refine pure_ (i := 9) (N := some 20) (v := ?_) (a' := ?_) (bm_ 38 1023) rfl rfl (any_of HT_.out u23_) (fun _ _ _ h => h) (Or.inl ⟨u82_, ?_⟩) ?_ ?_; rotate_left
           ·exact u22_
           rotate_left
           ·exact u0_
           refine pure_ (i := 11) (N := some 22) (v := ?_) (a' := ?_) (bm_ 38 3071) rfl rfl (any_of HT_.out u23_) (fun _ _ _ h => h) (Or.inl ⟨u82_, ?_⟩) ?_ ?_; rotate_left
           ·exact u22_
           rotate_left
           ·exact u0_
           refine take_ (i := 10) (N := some 21) (v := ?_) (a' := ?_) (bm_ 38 4095) rfl rfl (take_ofW HT_.out HW_.out u23_) (fun _ _ _ h => h) (Or.inl ⟨u82_, ?_⟩) hHeld ?_ ?_; rotate_left
           ·exact u79_
           rotate_left
           ·exact u0_
           refine pure_ (i := 12) (N := some 23) (v := ?_) (a' := ?_) (bm_ 38 8191) rfl rfl (any_of HT_.out u23_) (fun _ _ _ h => h) (Or.inl ⟨u82_, ?_⟩) ?_ ?_; rotate_left
           ·exact u22_
           rotate_left
           ·exact u0_
           refine pure_ (i := 13) (N := some 24) (v := ?_) (a' := ?_) (bm_ 38 16383) rfl rfl (any_of HT_.out u23_) (fun _ _ _ h => h) (Or.inl ⟨u82_, ?_⟩) ?_ ?_; rotate_left
           ·exact u22_
           rotate_left
           ·exact u0_
           refine take_ (i := 14) (N := some 25) (v := ?_) (a' := ?_) (bm_ 38 32767) rfl rfl (take_ofW HT_.out HW_.out u23_) (fun _ _ _ h => h) (Or.inl ⟨u82_, ?_⟩) hHeld ?_ ?_; rotate_left
           ·exact u79_
           rotate_left
           ·exact u0_
           refine one_ (i := 15) (N := some 26) (bm_ 38 65535) rfl rfl (one_of HT_.out u23_) u52_ (fun K hK => ?_); refine goes_ Tryd.func92 u23_ rfl #[.string ((rd_T46 l0_1 x3_1).f1)] u82_ rfl rfl u1_ ?_; with_reducible refine (spec_l2Text.calls k1 ((rd_T46 l0_1 x3_1).f1) true _ A7.out).mono ?_
           rintro e w' ⟨rfl, ⟨nd, rfl⟩⟩; refine ⟨_, rfl, ?_⟩; refine hK.out _ _ ⟨(blk_cell BK410.out 0).trans rfl, (blk_cell BK410.out 1).trans rfl, ((HB.out.cell (World.block_lt_of_cell? w _ hw412_0)).trans hw412_0), ((HB.out.cell (World.block_lt_of_cell? w _ hw412_1)).trans hw412_1), ((HB.out.cell (World.block_lt_of_cell? w _ hw414_0)).trans hw414_0), ((HB.out.cell (World.block_lt_of_cell? w _ hw414_1)).trans hw414_1), ((HB.out.cell (World.block_lt_of_cell? w _ hw416_0)).trans hw416_0), ((HB.out.cell (World.block_lt_of_cell? w _ hw416_1)).trans hw416_1), ((HB.out.cell (World.block_lt_of_cell? w _ hw417_0)).trans hw417_0), ((HB.out.cell (World.block_lt_of_cell? w _ hw417_1)).trans hw417_1)⟩ (fun hHeld => ?_); clear hK K; refine norm_ (a' := ?_) ?_ ?_; rotate_left
           ·show Act.put _ (some 26) _ = _
            simp only [Act.put, List.setIfInBounds_toArray, List.set_cons_zero, List.set_cons_succ, i64_w, i32_w]; rfl
           refine pure_ (i := 16) (N := some 27) (v := ?_) (a' := ?_) (bm_ 38 131071) rfl rfl (any_of HT_.out u23_) (fun _ _ _ h => h) (Or.inl ⟨u82_, ?_⟩) ?_ ?_; rotate_left
           ·exact u22_
           rotate_left
           ·exact u0_
           refine pure_ (i := 17) (N := some 28) (v := ?_) (a' := ?_) (bm_ 38 262143) rfl rfl (any_of HT_.out u23_) (fun _ _ _ h => h) (Or.inl ⟨u82_, ?_⟩) ?_ ?_; rotate_left
           ·exact u22_
           rotate_left
           ·exact u0_
           refine pure_ (i := 18) (N := some 29) (v := ?_) (a' := ?_) (bm_ 38 524287) rfl rfl (any_of HT_.out u23_) (fun _ _ _ h => h) (Or.inl ⟨u82_, ?_⟩) ?_ ?_; rotate_left
           ·exact u22_
           rotate_left
           ·exact u0_
           refine pure_ (i := 19) (N := some 30) (v := ?_) (a' := ?_) (bm_ 38 1048575) rfl rfl (any_of HT_.out u23_) (fun _ _ _ h => h) (Or.inl ⟨u82_, ?_⟩) ?_ ?_; rotate_left
           ·exact u22_
           rotate_left
           ·exact u0_
           refine pure_ (i := 20) (N := some 31) (v := ?_) (a' := ?_) (bm_ 38 2097151) rfl rfl (any_of HT_.out u23_) (fun _ _ _ h => h) (Or.inl ⟨u82_, ?_⟩) ?_ ?_; rotate_left
           ·exact u22_
           rotate_left
           ·exact u0_
           refine pure_ (i := 21) (N := some 32) (v := ?_) (a' := ?_) (bm_ 38 4194303) rfl rfl (any_of HT_.out u23_) (fun _ _ _ h => h) (Or.inl ⟨u82_, ?_⟩) ?_ ?_; rotate_left
           ·exact u22_
           rotate_left
           ·exact u0_
           refine pure_ (i := 22) (N := some 33) (v := ?_) (a' := ?_) (bm_ 38 8388607) rfl rfl (any_of HT_.out u23_) (fun _ _ _ h => h) (Or.inl ⟨u82_, ?_⟩) ?_ ?_; rotate_left
           ·exact u22_
           rotate_left
           ·exact u0_
           refine pure_ (i := 24) (N := some 35) (v := ?_) (a' := ?_) (bm_ 38 25165823) rfl rfl (any_of HT_.out u23_) (fun _ _ _ h => h) (Or.inl ⟨u82_, ?_⟩) ?_ ?_; rotate_left
           ·exact u22_
           rotate_left
           ·exact u0_
           refine pure_ (i := 25) (N := some 36) (v := ?_) (a' := ?_) (bm_ 38 58720255) rfl rfl (any_of HT_.out u23_) (fun _ _ _ h => h) (Or.inl ⟨u82_, ?_⟩) ?_ ?_; rotate_left
           ·exact u22_
           rotate_left
           ·exact u0_
           refine pure_ (i := 29) (N := some 40) (v := ?_) (a' := ?_) (bm_ 38 595591167) rfl rfl (any_of HT_.out u23_) (fun _ _ _ h => h) (Or.inl ⟨u82_, ?_⟩) ?_ ?_; rotate_left
           ·exact u22_
           rotate_left
           ·exact u0_
           refine pure_ (i := 31) (N := some 42) (v := ?_) (a' := ?_) (bm_ 38 2743074815) rfl rfl (any_of HT_.out u23_) (fun _ _ _ h => h) (Or.inl ⟨u82_, ?_⟩) ?_ ?_; rotate_left
           ·exact u22_
           rotate_left
           ·exact u0_
           refine take_ (i := 23) (N := some 34) (v := ?_) (a' := ?_) (bm_ 38 2751463423) rfl rfl (take_ofW HT_.out HW_.out u23_) (fun _ _ _ h => h) (Or.inl ⟨u82_, ?_⟩) hHeld ?_ ?_; rotate_left
           ·exact u79_
           rotate_left
           ·exact u0_
           refine pure_ (i := 26) (N := some 37) (v := ?_) (a' := ?_) (bm_ 38 2818572287) rfl rfl (any_of HT_.out u23_) (fun _ _ _ h => h) (Or.inl ⟨u82_, ?_⟩) ?_ ?_; rotate_left
           ·exact u22_
           rotate_left
           ·exact u0_
           refine pure_ (i := 27) (N := some 38) (v := ?_) (a' := ?_) (bm_ 38 2952790015) rfl rfl (any_of HT_.out u23_) (fun _ _ _ h => h) (Or.inl ⟨u82_, ?_⟩) ?_ ?_; rotate_left
           ·exact u22_
           rotate_left
           ·exact u0_
           refine take_ (i := 28) (N := some 39) (v := ?_) (a' := ?_) (bm_ 38 3221225471) rfl rfl (take_ofW HT_.out HW_.out u23_) (fun _ _ _ h => h) (Or.inl ⟨u82_, ?_⟩) hHeld ?_ ?_; rotate_left
           ·exact u79_
           rotate_left
           ·exact u0_
           refine take_ (i := 30) (N := some 41) (v := ?_) (a' := ?_) (bm_ 38 4294967295) rfl rfl (take_ofW HT_.out HW_.out u23_) (fun _ _ _ h => h) (Or.inl ⟨u82_, ?_⟩) hHeld ?_ ?_; rotate_left
           ·exact u79_
           rotate_left
           ·exact u0_
           refine pure_ (i := 32) (N := some 43) (v := ?_) (a' := ?_) (bm_ 38 8589934591) rfl rfl (any_of HT_.out u23_) (fun _ _ _ h => h) (Or.inl ⟨u82_, ?_⟩) ?_ ?_; rotate_left
           ·exact u22_
           rotate_left
           ·exact u0_
           refine pure_ (i := 33) (N := some 44) (v := ?_) (a' := ?_) (bm_ 38 17179869183) rfl rfl (any_of HT_.out u23_) (fun _ _ _ h => h) (Or.inl ⟨u82_, ?_⟩) ?_ ?_; rotate_left
           ·exact u22_
           rotate_left
           ·exact u0_
           refine take_ (i := 34) (N := some 45) (v := ?_) (a' := ?_) (bm_ 38 34359738367) rfl rfl (take_ofW HT_.out HW_.out u23_) (fun _ _ _ h => h) (Or.inl ⟨u82_, ?_⟩) hHeld ?_ ?_; rotate_left
           ·exact u79_
           rotate_left
           ·exact u0_
           refine pure_ (i := 35) (N := some 46) (v := ?_) (a' := ?_) (bm_ 38 68719476735) rfl rfl (any_of HT_.out u23_) (fun _ _ _ h => h) (Or.inl ⟨u82_, ?_⟩) ?_ ?_; rotate_left
           ·exact u22_
           rotate_left
           ·exact u0_
           refine pure_ (i := 36) (N := some 47) (v := ?_) (a' := ?_) (bm_ 38 137438953471) rfl rfl (any_of HT_.out u23_) (fun _ _ _ h => h) (Or.inl ⟨u82_, ?_⟩) ?_ ?_; rotate_left
           ·exact u22_
           rotate_left
           ·exact u0_
           refine pure_ (i := 37) (N := some 48) (v := ?_) (a' := ?_) (bm_ 38 274877906943) rfl rfl (any_of HT_.out u23_) (fun _ _ _ h => h) (Or.inl ⟨u82_, ?_⟩) ?_ ?_; rotate_left
           ·exact u22_
           rotate_left
           ·exact u0_
           refine done_ (done_of HT_.out u23_) ?_; try go_wp2
           go_ret
           exact ⟨by first | rfl | (simp [errW_none, errW_some] <;> rfl) | (simp only [← hji10]; first | rfl | (simp [errW_none, errW_some] <;> rfl)) | (simp [*, errW_none, errW_some] <;> rfl) | (simp; exact isEmpty_bne _), u80_⟩
         ·rw [if_neg c12] at H; exact absurd H u99_
        ·exact u243_
       ·rw [if_neg c9] at H; have c9b0 : decide (0 < x3_1) = false := decide_eq_false c9; clear c9; have H' := am_ H; clear H; have hcz18_0 : wr.cell? ⟨gb410, 0, none⟩ = some (.string a0_0) := (blk_cell BK410.out 0).trans rfl; have hcz18_1 : wr.cell? ⟨gb410, 1, none⟩ = some (.slice A0_1 l0_1.length c0_1) := (blk_cell BK410.out 1).trans rfl; have hfz18_0 := blk_frozen BK410.out 0; have hfz18_1 := blk_frozen BK410.out 1; try go_wp2
        replace BK410 := am_ (blk_drew BK410.out); replace HB := am_ (below_drew1 HB.out); have p412 : 0 ≤ (x3_1 : Int) := of_decide_eq_true u5_; have q412 : x3_1 < (l0_1.length : Int) := of_decide_eq_true u5_; obtain ⟨ad412, e412, hx412_0, hx412_1⟩ := at_T46 HR0_1.out x3_1 p412 q412; have hw412_1 := hx412_1; have hw412_0 := hx412_0; cases e412; replace hx412_0 := (HB.out.cell (World.block_lt_of_cell? w _ hx412_0)).trans hx412_0; replace hx412_1 := (HB.out.cell (World.block_lt_of_cell? w _ hx412_1)).trans hx412_1; replace p412 := eq_true p412; replace q412 := eq_true q412; have p414 : 0 ≤ (x3_1 : Int) := of_decide_eq_true u5_; have q414 : x3_1 < (l0_1.length : Int) := of_decide_eq_true u5_; obtain ⟨ad414, e414, hx414_0, hx414_1⟩ := at_T46 HR0_1.out x3_1 p414 q414; have hw414_1 := hx414_1; have hw414_0 := hx414_0; obtain rfl : ad412 = ad414 := (by injection e414); replace hx414_0 := (HB.out.cell (World.block_lt_of_cell? w _ hx414_0)).trans hx414_0; replace hx414_1 := (HB.out.cell (World.block_lt_of_cell? w _ hx414_1)).trans hx414_1; replace p414 := eq_true p414; replace q414 := eq_true q414; refine start_ (n := 38) (S := fun w' => w'.cell? ⟨gb410, 0, none⟩ = some (.string a0_0) ∧ w'.cell? ⟨gb410, 1, none⟩ = some (.slice (some ad412) l0_1.length c0_1) ∧ w'.cell? (ad412.add ((x3_1).toNat * 2)) = some (.string ((rd_T46 l0_1 x3_1).f0)) ∧ w'.cell? ⟨(ad412.add ((x3_1).toNat * 2)).block, (ad412.add ((x3_1).toNat * 2)).off + 1, none⟩ = some (.string ((rd_T46 l0_1 x3_1).f1)) ∧ w'.cell? (ad412.add ((x3_1).toNat * 2)) = some (.string ((rd_T46 l0_1 x3_1).f0)) ∧ w'.cell? ⟨(ad412.add ((x3_1).toNat * 2)).block, (ad412.add ((x3_1).toNat * 2)).off + 1, none⟩ = some (.string ((rd_T46 l0_1 x3_1).f1))) (ds := []) (bm_ 38 0) u23_ rfl rfl ⟨(blk_cell BK410.out 0).trans rfl, (blk_cell BK410.out 1).trans rfl, ((HB.out.cell (World.block_lt_of_cell? w _ hw412_0)).trans hw412_0), ((HB.out.cell (World.block_lt_of_cell? w _ hw412_1)).trans hw412_1), ((HB.out.cell (World.block_lt_of_cell? w _ hw414_0)).trans hw414_0), ((HB.out.cell (World.block_lt_of_cell? w _ hw414_1)).trans hw414_1)⟩ (fun hHeld => ?_); refine with_tabW spec_l2Form.tab4 spec_l2Form.bits4 (fun HT_ HW_ => ?_); generalize wr.drew = w19 at BK410 HB hx412_0 hx412_1 hx414_0 hx414_1 hHeld ⊢; refine pure_ (i := 0) (N := some 11) (v := ?_) (a' := ?_) (bm_ 38 1) rfl rfl (any_of HT_.out u23_) (fun _ _ _ h => h) (Or.inl ⟨u82_, ?_⟩) ?_ ?_; rotate_left
        ·exact u22_
        rotate_left
        ·exact u0_
        refine pure_ (i := 2) (N := some 13) (v := ?_) (a' := ?_) (bm_ 38 5) rfl rfl (any_of HT_.out u23_) (fun _ _ _ h => h) (Or.inl ⟨u82_, ?_⟩) ?_ ?_; rotate_left
        ·exact u22_
        rotate_left
        ·exact u0_
        refine take_ (i := 1) (N := some 12) (v := ?_) (a' := ?_) (bm_ 38 7) rfl rfl (take_ofW HT_.out HW_.out u23_) (fun _ _ _ h => h) (Or.inl ⟨u82_, ?_⟩) hHeld ?_ ?_; rotate_left
        ·exact u134_
        rotate_left
        ·exact u0_
        refine pure_ (i := 3) (N := some 14) (v := ?_) (a' := ?_) (bm_ 38 15) rfl rfl (any_of HT_.out u23_) (fun _ _ _ h => h) (Or.inl ⟨u82_, ?_⟩) ?_ ?_; rotate_left
        ·exact u22_
        rotate_left
        ·exact u0_
        refine pure_ (i := 4) (N := some 15) (v := ?_) (a' := ?_) (bm_ 38 31) rfl rfl (any_of HT_.out u23_) (fun _ _ _ h => h) (Or.inl ⟨u82_, ?_⟩) ?_ ?_; rotate_left
        ·exact u22_
        rotate_left
        ·exact u0_
        refine take_ (i := 5) (N := some 16) (v := ?_) (a' := ?_) (bm_ 38 63) rfl rfl (take_ofW HT_.out HW_.out u23_) (fun _ _ _ h => h) (Or.inl ⟨u82_, ?_⟩) hHeld ?_ ?_; rotate_left
        ·exact u134_
        rotate_left
        ·exact u0_
        refine one_ (i := 6) (N := some 17) (bm_ 38 127) rfl rfl (one_of HT_.out u23_) u52_ (fun K hK => ?_); refine goes_ Tryd.func69 u23_ rfl #[.string ((rd_T46 l0_1 x3_1).f0)] u82_ rfl rfl u1_ ?_; with_reducible refine (spec_NameOk.calls k1 ((rd_T46 l0_1 x3_1).f0) true _ A5.out).mono ?_
        rintro e w' ⟨rfl, ⟨nd, rfl⟩⟩; refine ⟨_, rfl, ?_⟩; refine hK.out _ _ ⟨(blk_cell BK410.out 0).trans rfl, (blk_cell BK410.out 1).trans rfl, ((HB.out.cell (World.block_lt_of_cell? w _ hw412_0)).trans hw412_0), ((HB.out.cell (World.block_lt_of_cell? w _ hw412_1)).trans hw412_1), ((HB.out.cell (World.block_lt_of_cell? w _ hw414_0)).trans hw414_0), ((HB.out.cell (World.block_lt_of_cell? w _ hw414_1)).trans hw414_1)⟩ (fun hHeld => ?_); clear hK K; refine norm_ (a' := ?_) ?_ ?_; rotate_left
        ·show Act.put _ (some 17) _ = _
         simp only [Act.put, List.setIfInBounds_toArray, List.set_cons_zero, List.set_cons_succ, i64_w, i32_w]; rfl
        refine pure_ (i := 7) (N := some 18) (v := ?_) (a' := ?_) (bm_ 38 255) rfl rfl (any_of HT_.out u23_) (fun _ _ _ h => h) (Or.inl ⟨u82_, ?_⟩) ?_ ?_; rotate_left
        ·exact u22_
        rotate_left
        ·exact u0_
        refine pure_ (i := 8) (N := some 19) (v := ?_) (a' := ?_) (bm_ 38 511) rfl rfl (any_of HT_.out u23_) (fun _ _ _ h => h) (Or.inl ⟨u82_, ?_⟩) ?_ ?_; rotate_left
        ·exact u22_
        rotate_left
        ·exact u0_
        refine pure_ (i := 9) (N := some 20) (v := ?_) (a' := ?_) (bm_ 38 1023) rfl rfl (any_of HT_.out u23_) (fun _ _ _ h => h) (Or.inl ⟨u82_, ?_⟩) ?_ ?_; rotate_left
        ·exact u22_
        rotate_left
        ·exact u0_
        refine pure_ (i := 11) (N := some 22) (v := ?_) (a' := ?_) (bm_ 38 3071) rfl rfl (any_of HT_.out u23_) (fun _ _ _ h => h) (Or.inl ⟨u82_, ?_⟩) ?_ ?_; rotate_left
        ·exact u22_
        rotate_left
        ·exact u0_
        refine take_ (i := 10) (N := some 21) (v := ?_) (a' := ?_) (bm_ 38 4095) rfl rfl (take_ofW HT_.out HW_.out u23_) (fun _ _ _ h => h) (Or.inl ⟨u82_, ?_⟩) hHeld ?_ ?_; rotate_left
        ·exact u134_
        rotate_left
        ·exact u0_
        refine pure_ (i := 12) (N := some 23) (v := ?_) (a' := ?_) (bm_ 38 8191) rfl rfl (any_of HT_.out u23_) (fun _ _ _ h => h) (Or.inl ⟨u82_, ?_⟩) ?_ ?_; rotate_left
        ·exact u22_
        rotate_left
        ·exact u0_
        refine pure_ (i := 13) (N := some 24) (v := ?_) (a' := ?_) (bm_ 38 16383) rfl rfl (any_of HT_.out u23_) (fun _ _ _ h => h) (Or.inl ⟨u82_, ?_⟩) ?_ ?_; rotate_left
        ·exact u22_
        rotate_left
        ·exact u0_
        refine take_ (i := 14) (N := some 25) (v := ?_) (a' := ?_) (bm_ 38 32767) rfl rfl (take_ofW HT_.out HW_.out u23_) (fun _ _ _ h => h) (Or.inl ⟨u82_, ?_⟩) hHeld ?_ ?_; rotate_left
        ·exact u134_
        rotate_left
        ·exact u0_
        refine one_ (i := 15) (N := some 26) (bm_ 38 65535) rfl rfl (one_of HT_.out u23_) u52_ (fun K hK => ?_); refine goes_ Tryd.func92 u23_ rfl #[.string ((rd_T46 l0_1 x3_1).f1)] u82_ rfl rfl u1_ ?_; with_reducible refine (spec_l2Text.calls k1 ((rd_T46 l0_1 x3_1).f1) true _ A7.out).mono ?_
        rintro e w' ⟨rfl, ⟨nd, rfl⟩⟩; refine ⟨_, rfl, ?_⟩; refine hK.out _ _ ⟨(blk_cell BK410.out 0).trans rfl, (blk_cell BK410.out 1).trans rfl, ((HB.out.cell (World.block_lt_of_cell? w _ hw412_0)).trans hw412_0), ((HB.out.cell (World.block_lt_of_cell? w _ hw412_1)).trans hw412_1), ((HB.out.cell (World.block_lt_of_cell? w _ hw414_0)).trans hw414_0), ((HB.out.cell (World.block_lt_of_cell? w _ hw414_1)).trans hw414_1)⟩ (fun hHeld => ?_); clear hK K; refine norm_ (a' := ?_) ?_ ?_; rotate_left
        ·show Act.put _ (some 26) _ = _
         simp only [Act.put, List.setIfInBounds_toArray, List.set_cons_zero, List.set_cons_succ, i64_w, i32_w]; rfl
        refine pure_ (i := 16) (N := some 27) (v := ?_) (a' := ?_) (bm_ 38 131071) rfl rfl (any_of HT_.out u23_) (fun _ _ _ h => h) (Or.inl ⟨u82_, ?_⟩) ?_ ?_; rotate_left
        ·exact u22_
        rotate_left
        ·exact u0_
        refine pure_ (i := 17) (N := some 28) (v := ?_) (a' := ?_) (bm_ 38 262143) rfl rfl (any_of HT_.out u23_) (fun _ _ _ h => h) (Or.inl ⟨u82_, ?_⟩) ?_ ?_; rotate_left
        ·exact u22_
        rotate_left
        ·exact u0_
        refine pure_ (i := 18) (N := some 29) (v := ?_) (a' := ?_) (bm_ 38 524287) rfl rfl (any_of HT_.out u23_) (fun _ _ _ h => h) (Or.inl ⟨u82_, ?_⟩) ?_ ?_; rotate_left
        ·exact u22_
        rotate_left
        ·exact u0_
        refine pure_ (i := 19) (N := some 30) (v := ?_) (a' := ?_) (bm_ 38 1048575) rfl rfl (any_of HT_.out u23_) (fun _ _ _ h => h) (Or.inl ⟨u82_, ?_⟩) ?_ ?_; rotate_left
        ·exact u22_
        rotate_left
        ·exact u0_
        refine pure_ (i := 20) (N := some 31) (v := ?_) (a' := ?_) (bm_ 38 2097151) rfl rfl (any_of HT_.out u23_) (fun _ _ _ h => h) (Or.inl ⟨u82_, ?_⟩) ?_ ?_; rotate_left
        ·exact u22_
        rotate_left
        ·exact u0_
        refine pure_ (i := 21) (N := some 32) (v := ?_) (a' := ?_) (bm_ 38 4194303) rfl rfl (any_of HT_.out u23_) (fun _ _ _ h => h) (Or.inl ⟨u82_, ?_⟩) ?_ ?_; rotate_left
        ·exact u22_
        rotate_left
        ·exact u0_
        refine pure_ (i := 22) (N := some 33) (v := undef) (a' := ?_) (bm_ 38 8388607) rfl rfl (any_of HT_.out u23_) (fun _ _ _ h => h) (Or.inr ⟨u82_, rfl⟩) ?_ ?_; rotate_left
        ·exact u0_
        refine pure_ (i := 23) (N := some 34) (v := undef) (a' := ?_) (bm_ 38 16777215) rfl rfl (any_of HT_.out u23_) (fun _ _ _ h => h) (Or.inr ⟨u82_, rfl⟩) ?_ ?_; rotate_left
        ·exact u0_
        refine pure_ (i := 24) (N := some 35) (v := undef) (a' := ?_) (bm_ 38 33554431) rfl rfl (any_of HT_.out u23_) (fun _ _ _ h => h) (Or.inr ⟨u82_, rfl⟩) ?_ ?_; rotate_left
        ·exact u0_
        refine pure_ (i := 25) (N := some 36) (v := undef) (a' := ?_) (bm_ 38 67108863) rfl rfl (any_of HT_.out u23_) (fun _ _ _ h => h) (Or.inr ⟨u82_, rfl⟩) ?_ ?_; rotate_left
        ·exact u0_
        refine pure_ (i := 26) (N := some 37) (v := undef) (a' := ?_) (bm_ 38 134217727) rfl rfl (any_of HT_.out u23_) (fun _ _ _ h => h) (Or.inr ⟨u82_, rfl⟩) ?_ ?_; rotate_left
        ·exact u0_
        refine pure_ (i := 27) (N := some 38) (v := undef) (a' := ?_) (bm_ 38 268435455) rfl rfl (any_of HT_.out u23_) (fun _ _ _ h => h) (Or.inr ⟨u82_, rfl⟩) ?_ ?_; rotate_left
        ·exact u0_
        refine pure_ (i := 28) (N := some 39) (v := undef) (a' := ?_) (bm_ 38 536870911) rfl rfl (any_of HT_.out u23_) (fun _ _ _ h => h) (Or.inr ⟨u82_, rfl⟩) ?_ ?_; rotate_left
        ·exact u0_
        refine pure_ (i := 29) (N := some 40) (v := undef) (a' := ?_) (bm_ 38 1073741823) rfl rfl (any_of HT_.out u23_) (fun _ _ _ h => h) (Or.inr ⟨u82_, rfl⟩) ?_ ?_; rotate_left
        ·exact u0_
        refine pure_ (i := 30) (N := some 41) (v := undef) (a' := ?_) (bm_ 38 2147483647) rfl rfl (any_of HT_.out u23_) (fun _ _ _ h => h) (Or.inr ⟨u82_, rfl⟩) ?_ ?_; rotate_left
        ·exact u0_
        refine pure_ (i := 31) (N := some 42) (v := undef) (a' := ?_) (bm_ 38 4294967295) rfl rfl (any_of HT_.out u23_) (fun _ _ _ h => h) (Or.inr ⟨u82_, rfl⟩) ?_ ?_; rotate_left
        ·exact u0_
        refine pure_ (i := 32) (N := some 43) (v := undef) (a' := ?_) (bm_ 38 8589934591) rfl rfl (any_of HT_.out u23_) (fun _ _ _ h => h) (Or.inr ⟨u82_, rfl⟩) ?_ ?_; rotate_left
        ·exact u0_
        refine pure_ (i := 33) (N := some 44) (v := undef) (a' := ?_) (bm_ 38 17179869183) rfl rfl (any_of HT_.out u23_) (fun _ _ _ h => h) (Or.inr ⟨u82_, rfl⟩) ?_ ?_; rotate_left
        ·exact u0_
        refine pure_ (i := 34) (N := some 45) (v := undef) (a' := ?_) (bm_ 38 34359738367) rfl rfl (any_of HT_.out u23_) (fun _ _ _ h => h) (Or.inr ⟨u82_, rfl⟩) ?_ ?_; rotate_left
        ·exact u0_
        refine pure_ (i := 35) (N := some 46) (v := undef) (a' := ?_) (bm_ 38 68719476735) rfl rfl (any_of HT_.out u23_) (fun _ _ _ h => h) (Or.inr ⟨u82_, rfl⟩) ?_ ?_; rotate_left
        ·exact u0_
        refine pure_ (i := 36) (N := some 47) (v := ?_) (a' := ?_) (bm_ 38 137438953471) rfl rfl (any_of HT_.out u23_) (fun _ _ _ h => h) (Or.inl ⟨u82_, ?_⟩) ?_ ?_; rotate_left
        ·exact u22_
        rotate_left
        ·exact u0_
        refine pure_ (i := 37) (N := some 48) (v := ?_) (a' := ?_) (bm_ 38 274877906943) rfl rfl (any_of HT_.out u23_) (fun _ _ _ h => h) (Or.inl ⟨u82_, ?_⟩) ?_ ?_; rotate_left
        ·exact u22_
        rotate_left
        ·exact u0_
        refine done_ (done_of HT_.out u23_) ?_; try go_wp2
        go_roundg k1
        case measure => have := HK1.out; omega
        case rel => exact ⟨(wrap64 (x3_1 + 1)), u35_, H', ⟨u131_⟩, ⟨u163_⟩, ⟨u80_⟩⟩
      ·replace c8 := Bool.eq_false_iff.mpr c8; subst c8; rw [if_neg (show ¬ (false = true) by decide)] at H; obtain rfl := Option.some.inj H; have hcz20_0 : wr.cell? ⟨gb410, 0, none⟩ = some (.string a0_0) := (blk_cell BK410.out 0).trans rfl; have hcz20_1 : wr.cell? ⟨gb410, 1, none⟩ = some (.slice A0_1 l0_1.length c0_1) := (blk_cell BK410.out 1).trans rfl; have hfz20_0 := blk_frozen BK410.out 0; have hfz20_1 := blk_frozen BK410.out 1; try go_wp2
       replace BK410 := am_ (blk_drew BK410.out); replace HB := am_ (below_drew1 HB.out); have p412 : 0 ≤ (x3_1 : Int) := of_decide_eq_true u5_; have q412 : x3_1 < (l0_1.length : Int) := of_decide_eq_true u5_; obtain ⟨ad412, e412, hx412_0, hx412_1⟩ := at_T46 HR0_1.out x3_1 p412 q412; have hw412_1 := hx412_1; have hw412_0 := hx412_0; cases e412; replace hx412_0 := (HB.out.cell (World.block_lt_of_cell? w _ hx412_0)).trans hx412_0; replace hx412_1 := (HB.out.cell (World.block_lt_of_cell? w _ hx412_1)).trans hx412_1; replace p412 := eq_true p412; replace q412 := eq_true q412; have p414 : 0 ≤ (x3_1 : Int) := of_decide_eq_true u5_; have q414 : x3_1 < (l0_1.length : Int) := of_decide_eq_true u5_; obtain ⟨ad414, e414, hx414_0, hx414_1⟩ := at_T46 HR0_1.out x3_1 p414 q414; have hw414_1 := hx414_1; have hw414_0 := hx414_0; obtain rfl : ad412 = ad414 := (by injection e414); replace hx414_0 := (HB.out.cell (World.block_lt_of_cell? w _ hx414_0)).trans hx414_0; replace hx414_1 := (HB.out.cell (World.block_lt_of_cell? w _ hx414_1)).trans hx414_1; replace p414 := eq_true p414; replace q414 := eq_true q414; refine start_ (n := 38) (S := fun w' => w'.cell? ⟨gb410, 0, none⟩ = some (.string a0_0) ∧ w'.cell? ⟨gb410, 1, none⟩ = some (.slice (some ad412) l0_1.length c0_1) ∧ w'.cell? (ad412.add ((x3_1).toNat * 2)) = some (.string ((rd_T46 l0_1 x3_1).f0)) ∧ w'.cell? ⟨(ad412.add ((x3_1).toNat * 2)).block, (ad412.add ((x3_1).toNat * 2)).off + 1, none⟩ = some (.string ((rd_T46 l0_1 x3_1).f1)) ∧ w'.cell? (ad412.add ((x3_1).toNat * 2)) = some (.string ((rd_T46 l0_1 x3_1).f0)) ∧ w'.cell? ⟨(ad412.add ((x3_1).toNat * 2)).block, (ad412.add ((x3_1).toNat * 2)).off + 1, none⟩ = some (.string ((rd_T46 l0_1 x3_1).f1))) (ds := []) (bm_ 38 0) u23_ rfl rfl ⟨(blk_cell BK410.out 0).trans rfl, (blk_cell BK410.out 1).trans rfl, ((HB.out.cell (World.block_lt_of_cell? w _ hw412_0)).trans hw412_0), ((HB.out.cell (World.block_lt_of_cell? w _ hw412_1)).trans hw412_1), ((HB.out.cell (World.block_lt_of_cell? w _ hw414_0)).trans hw414_0), ((HB.out.cell (World.block_lt_of_cell? w _ hw414_1)).trans hw414_1)⟩ (fun hHeld => ?_); refine with_tabW spec_l2Form.tab4 spec_l2Form.bits4 (fun HT_ HW_ => ?_); generalize wr.drew = w21 at BK410 HB hx412_0 hx412_1 hx414_0 hx414_1 hHeld ⊢; refine pure_ (i := 0) (N := some 11) (v := ?_) (a' := ?_) (bm_ 38 1) rfl rfl (any_of HT_.out u23_) (fun _ _ _ h => h) (Or.inl ⟨u82_, ?_⟩) ?_ ?_; rotate_left
       ·exact u22_
       rotate_left
       ·exact u0_
       refine pure_ (i := 2) (N := some 13) (v := ?_) (a' := ?_) (bm_ 38 5) rfl rfl (any_of HT_.out u23_) (fun _ _ _ h => h) (Or.inl ⟨u82_, ?_⟩) ?_ ?_; rotate_left
       ·exact u22_
       rotate_left
       ·exact u0_
       refine take_ (i := 1) (N := some 12) (v := ?_) (a' := ?_) (bm_ 38 7) rfl rfl (take_ofW HT_.out HW_.out u23_) (fun _ _ _ h => h) (Or.inl ⟨u82_, ?_⟩) hHeld ?_ ?_; rotate_left
       ·exact u134_
       rotate_left
       ·exact u0_
       refine pure_ (i := 3) (N := some 14) (v := ?_) (a' := ?_) (bm_ 38 15) rfl rfl (any_of HT_.out u23_) (fun _ _ _ h => h) (Or.inl ⟨u82_, ?_⟩) ?_ ?_; rotate_left
       ·exact u22_
       rotate_left
       ·exact u0_
       refine pure_ (i := 4) (N := some 15) (v := ?_) (a' := ?_) (bm_ 38 31) rfl rfl (any_of HT_.out u23_) (fun _ _ _ h => h) (Or.inl ⟨u82_, ?_⟩) ?_ ?_; rotate_left
       ·exact u22_
       rotate_left
       ·exact u0_
       refine take_ (i := 5) (N := some 16) (v := ?_) (a' := ?_) (bm_ 38 63) rfl rfl (take_ofW HT_.out HW_.out u23_) (fun _ _ _ h => h) (Or.inl ⟨u82_, ?_⟩) hHeld ?_ ?_; rotate_left
       ·exact u134_
       rotate_left
       ·exact u0_
       refine one_ (i := 6) (N := some 17) (bm_ 38 127) rfl rfl (one_of HT_.out u23_) u52_ (fun K hK => ?_); refine goes_ Tryd.func69 u23_ rfl #[.string ((rd_T46 l0_1 x3_1).f0)] u82_ rfl rfl u1_ ?_; with_reducible refine (spec_NameOk.calls k1 ((rd_T46 l0_1 x3_1).f0) true _ A5.out).mono ?_
       rintro e w' ⟨rfl, ⟨nd, rfl⟩⟩; refine ⟨_, rfl, ?_⟩; refine hK.out _ _ ⟨(blk_cell BK410.out 0).trans rfl, (blk_cell BK410.out 1).trans rfl, ((HB.out.cell (World.block_lt_of_cell? w _ hw412_0)).trans hw412_0), ((HB.out.cell (World.block_lt_of_cell? w _ hw412_1)).trans hw412_1), ((HB.out.cell (World.block_lt_of_cell? w _ hw414_0)).trans hw414_0), ((HB.out.cell (World.block_lt_of_cell? w _ hw414_1)).trans hw414_1)⟩ (fun hHeld => ?_); clear hK K; refine norm_ (a' := ?_) ?_ ?_; rotate_left
       ·show Act.put _ (some 17) _ = _
        simp only [Act.put, List.setIfInBounds_toArray, List.set_cons_zero, List.set_cons_succ, i64_w, i32_w]; rfl
       refine pure_ (i := 7) (N := some 18) (v := ?_) (a' := ?_) (bm_ 38 255) rfl rfl (any_of HT_.out u23_) (fun _ _ _ h => h) (Or.inl ⟨u82_, ?_⟩) ?_ ?_; rotate_left
       ·exact u22_
       rotate_left
       ·exact u0_
       refine pure_ (i := 8) (N := some 19) (v := ?_) (a' := ?_) (bm_ 38 511) rfl rfl (any_of HT_.out u23_) (fun _ _ _ h => h) (Or.inl ⟨u82_, ?_⟩) ?_ ?_; rotate_left
       ·exact u22_
       rotate_left
       ·exact u0_
       refine pure_ (i := 9) (N := some 20) (v := ?_) (a' := ?_) (bm_ 38 1023) rfl rfl (any_of HT_.out u23_) (fun _ _ _ h => h) (Or.inl ⟨u82_, ?_⟩) ?_ ?_; rotate_left
       ·exact u22_
       rotate_left
       ·exact u0_
       refine pure_ (i := 11) (N := some 22) (v := ?_) (a' := ?_) (bm_ 38 3071) rfl rfl (any_of HT_.out u23_) (fun _ _ _ h => h) (Or.inl ⟨u82_, ?_⟩) ?_ ?_; rotate_left
       ·exact u22_
       rotate_left
       ·exact u0_
       refine take_ (i := 10) (N := some 21) (v := ?_) (a' := ?_) (bm_ 38 4095) rfl rfl (take_ofW HT_.out HW_.out u23_) (fun _ _ _ h => h) (Or.inl ⟨u82_, ?_⟩) hHeld ?_ ?_; rotate_left
       ·exact u134_
       rotate_left
       ·exact u0_
       refine pure_ (i := 12) (N := some 23) (v := ?_) (a' := ?_) (bm_ 38 8191) rfl rfl (any_of HT_.out u23_) (fun _ _ _ h => h) (Or.inl ⟨u82_, ?_⟩) ?_ ?_; rotate_left
       ·exact u22_
       rotate_left
       ·exact u0_
       refine pure_ (i := 13) (N := some 24) (v := ?_) (a' := ?_) (bm_ 38 16383) rfl rfl (any_of HT_.out u23_) (fun _ _ _ h => h) (Or.inl ⟨u82_, ?_⟩) ?_ ?_; rotate_left
       ·exact u22_
       rotate_left
       ·exact u0_
       refine take_ (i := 14) (N := some 25) (v := ?_) (a' := ?_) (bm_ 38 32767) rfl rfl (take_ofW HT_.out HW_.out u23_) (fun _ _ _ h => h) (Or.inl ⟨u82_, ?_⟩) hHeld ?_ ?_; rotate_left
       ·exact u134_
       rotate_left
       ·exact u0_
       refine one_ (i := 15) (N := some 26) (bm_ 38 65535) rfl rfl (one_of HT_.out u23_) u52_ (fun K hK => ?_); refine goes_ Tryd.func92 u23_ rfl #[.string ((rd_T46 l0_1 x3_1).f1)] u82_ rfl rfl u1_ ?_; with_reducible refine (spec_l2Text.calls k1 ((rd_T46 l0_1 x3_1).f1) false _ A7.out).mono ?_
       rintro e w' ⟨rfl, ⟨nd, rfl⟩⟩; refine ⟨_, rfl, ?_⟩; refine hK.out _ _ ⟨(blk_cell BK410.out 0).trans rfl, (blk_cell BK410.out 1).trans rfl, ((HB.out.cell (World.block_lt_of_cell? w _ hw412_0)).trans hw412_0), ((HB.out.cell (World.block_lt_of_cell? w _ hw412_1)).trans hw412_1), ((HB.out.cell (World.block_lt_of_cell? w _ hw414_0)).trans hw414_0), ((HB.out.cell (World.block_lt_of_cell? w _ hw414_1)).trans hw414_1)⟩ (fun hHeld => ?_); clear hK K; refine norm_ (a' := ?_) ?_ ?_; rotate_left
       ·show Act.put _ (some 26) _ = _
        simp only [Act.put, List.setIfInBounds_toArray, List.set_cons_zero, List.set_cons_succ, i64_w, i32_w]; rfl
       refine pure_ (i := 16) (N := some 27) (v := ?_) (a' := ?_) (bm_ 38 131071) rfl rfl (any_of HT_.out u23_) (fun _ _ _ h => h) (Or.inl ⟨u82_, ?_⟩) ?_ ?_; rotate_left
       ·exact u22_
       rotate_left
       ·exact u0_
       refine pure_ (i := 17) (N := some 28) (v := ?_) (a' := ?_) (bm_ 38 262143) rfl rfl (any_of HT_.out u23_) (fun _ _ _ h => h) (Or.inl ⟨u82_, ?_⟩) ?_ ?_; rotate_left
       ·exact u22_
       rotate_left
       ·exact u0_
       refine pure_ (i := 18) (N := some 29) (v := ?_) (a' := ?_) (bm_ 38 524287) rfl rfl (any_of HT_.out u23_) (fun _ _ _ h => h) (Or.inl ⟨u82_, ?_⟩) ?_ ?_; rotate_left
       ·exact u22_
       rotate_left
       ·exact u0_
       refine pure_ (i := 19) (N := some 30) (v := undef) (a' := ?_) (bm_ 38 1048575) rfl rfl (any_of HT_.out u23_) (fun _ _ _ h => h) (Or.inr ⟨u82_, rfl⟩) ?_ ?_; rotate_left
       ·exact u0_
       refine pure_ (i := 20) (N := some 31) (v := undef) (a' := ?_) (bm_ 38 2097151) rfl rfl (any_of HT_.out u23_) (fun _ _ _ h => h) (Or.inr ⟨u82_, rfl⟩) ?_ ?_; rotate_left
       ·exact u0_
       refine pure_ (i := 21) (N := some 32) (v := undef) (a' := ?_) (bm_ 38 4194303) rfl rfl (any_of HT_.out u23_) (fun _ _ _ h => h) (Or.inr ⟨u82_, rfl⟩) ?_ ?_; rotate_left
       ·exact u0_
       refine pure_ (i := 22) (N := some 33) (v := undef) (a' := ?_) (bm_ 38 8388607) rfl rfl (any_of HT_.out u23_) (fun _ _ _ h => h) (Or.inr ⟨u82_, rfl⟩) ?_ ?_; rotate_left
       ·exact u0_
       refine pure_ (i := 23) (N := some 34) (v := undef) (a' := ?_) (bm_ 38 16777215) rfl rfl (any_of HT_.out u23_) (fun _ _ _ h => h) (Or.inr ⟨u82_, rfl⟩) ?_ ?_; rotate_left
       ·exact u0_
       refine pure_ (i := 24) (N := some 35) (v := undef) (a' := ?_) (bm_ 38 33554431) rfl rfl (any_of HT_.out u23_) (fun _ _ _ h => h) (Or.inr ⟨u82_, rfl⟩) ?_ ?_; rotate_left
       ·exact u0_
       refine pure_ (i := 25) (N := some 36) (v := undef) (a' := ?_) (bm_ 38 67108863) rfl rfl (any_of HT_.out u23_) (fun _ _ _ h => h) (Or.inr ⟨u82_, rfl⟩) ?_ ?_; rotate_left
       ·exact u0_
       refine pure_ (i := 26) (N := some 37) (v := undef) (a' := ?_) (bm_ 38 134217727) rfl rfl (any_of HT_.out u23_) (fun _ _ _ h => h) (Or.inr ⟨u82_, rfl⟩) ?_ ?_; rotate_left
       ·exact u0_
       refine pure_ (i := 27) (N := some 38) (v := undef) (a' := ?_) (bm_ 38 268435455) rfl rfl (any_of HT_.out u23_) (fun _ _ _ h => h) (Or.inr ⟨u82_, rfl⟩) ?_ ?_; rotate_left
       ·exact u0_
       refine pure_ (i := 28) (N := some 39) (v := undef) (a' := ?_) (bm_ 38 536870911) rfl rfl (any_of HT_.out u23_) (fun _ _ _ h => h) (Or.inr ⟨u82_, rfl⟩) ?_ ?_; rotate_left
       ·exact u0_
       refine pure_ (i := 29) (N := some 40) (v := undef) (a' := ?_) (bm_ 38 1073741823) rfl rfl (any_of HT_.out u23_) (fun _ _ _ h => h) (Or.inr ⟨u82_, rfl⟩) ?_ ?_; rotate_left
       ·exact u0_
       refine pure_ (i := 30) (N := some 41) (v := undef) (a' := ?_) (bm_ 38 2147483647) rfl rfl (any_of HT_.out u23_) (fun _ _ _ h => h) (Or.inr ⟨u82_, rfl⟩) ?_ ?_; rotate_left
       ·exact u0_
       refine pure_ (i := 31) (N := some 42) (v := undef) (a' := ?_) (bm_ 38 4294967295) rfl rfl (any_of HT_.out u23_) (fun _ _ _ h => h) (Or.inr ⟨u82_, rfl⟩) ?_ ?_; rotate_left
       ·exact u0_
       refine pure_ (i := 32) (N := some 43) (v := undef) (a' := ?_) (bm_ 38 8589934591) rfl rfl (any_of HT_.out u23_) (fun _ _ _ h => h) (Or.inr ⟨u82_, rfl⟩) ?_ ?_; rotate_left
       ·exact u0_
       refine pure_ (i := 33) (N := some 44) (v := undef) (a' := ?_) (bm_ 38 17179869183) rfl rfl (any_of HT_.out u23_) (fun _ _ _ h => h) (Or.inr ⟨u82_, rfl⟩) ?_ ?_; rotate_left
       ·exact u0_
       refine pure_ (i := 34) (N := some 45) (v := undef) (a' := ?_) (bm_ 38 34359738367) rfl rfl (any_of HT_.out u23_) (fun _ _ _ h => h) (Or.inr ⟨u82_, rfl⟩) ?_ ?_; rotate_left
       ·exact u0_
       refine pure_ (i := 35) (N := some 46) (v := undef) (a' := ?_) (bm_ 38 68719476735) rfl rfl (any_of HT_.out u23_) (fun _ _ _ h => h) (Or.inr ⟨u82_, rfl⟩) ?_ ?_; rotate_left
       ·exact u0_
       refine pure_ (i := 36) (N := some 47) (v := undef) (a' := ?_) (bm_ 38 137438953471) rfl rfl (any_of HT_.out u23_) (fun _ _ _ h => h) (Or.inr ⟨u82_, rfl⟩) ?_ ?_; rotate_left
       ·exact u0_
       refine pure_ (i := 37) (N := some 48) (v := ?_) (a' := ?_) (bm_ 38 274877906943) rfl rfl (any_of HT_.out u23_) (fun _ _ _ h => h) (Or.inl ⟨u82_, ?_⟩) ?_ ?_; rotate_left
       ·exact u22_
       rotate_left
       ·exact u0_
       refine done_ (done_of HT_.out u23_) ?_; try go_wp2
       go_ret
       exact ⟨u6_, u80_⟩
     ·replace c6 := Bool.eq_false_iff.mpr c6; subst c6; rw [if_neg (show ¬ (false = true) by decide)] at H; obtain rfl := Option.some.inj H; have hcz22_0 : wr.cell? ⟨gb410, 0, none⟩ = some (.string a0_0) := (blk_cell BK410.out 0).trans rfl; have hcz22_1 : wr.cell? ⟨gb410, 1, none⟩ = some (.slice A0_1 l0_1.length c0_1) := (blk_cell BK410.out 1).trans rfl; have hfz22_0 := blk_frozen BK410.out 0; have hfz22_1 := blk_frozen BK410.out 1; try go_wp2
      replace BK410 := am_ (blk_drew BK410.out); replace HB := am_ (below_drew1 HB.out); have p412 : 0 ≤ (x3_1 : Int) := of_decide_eq_true u5_; have q412 : x3_1 < (l0_1.length : Int) := of_decide_eq_true u5_; obtain ⟨ad412, e412, hx412_0, hx412_1⟩ := at_T46 HR0_1.out x3_1 p412 q412; have hw412_1 := hx412_1; have hw412_0 := hx412_0; cases e412; replace hx412_0 := (HB.out.cell (World.block_lt_of_cell? w _ hx412_0)).trans hx412_0; replace hx412_1 := (HB.out.cell (World.block_lt_of_cell? w _ hx412_1)).trans hx412_1; replace p412 := eq_true p412; replace q412 := eq_true q412; refine start_ (n := 38) (S := fun w' => w'.cell? ⟨gb410, 0, none⟩ = some (.string a0_0) ∧ w'.cell? ⟨gb410, 1, none⟩ = some (.slice (some ad412) l0_1.length c0_1) ∧ w'.cell? (ad412.add ((x3_1).toNat * 2)) = some (.string ((rd_T46 l0_1 x3_1).f0)) ∧ w'.cell? ⟨(ad412.add ((x3_1).toNat * 2)).block, (ad412.add ((x3_1).toNat * 2)).off + 1, none⟩ = some (.string ((rd_T46 l0_1 x3_1).f1))) (ds := []) (bm_ 38 0) u23_ rfl rfl ⟨(blk_cell BK410.out 0).trans rfl, (blk_cell BK410.out 1).trans rfl, ((HB.out.cell (World.block_lt_of_cell? w _ hw412_0)).trans hw412_0), ((HB.out.cell (World.block_lt_of_cell? w _ hw412_1)).trans hw412_1)⟩ (fun hHeld => ?_); refine with_tabW spec_l2Form.tab4 spec_l2Form.bits4 (fun HT_ HW_ => ?_); generalize wr.drew = w23 at BK410 HB hx412_0 hx412_1 hHeld ⊢; refine pure_ (i := 0) (N := some 11) (v := ?_) (a' := ?_) (bm_ 38 1) rfl rfl (any_of HT_.out u23_) (fun _ _ _ h => h) (Or.inl ⟨u82_, ?_⟩) ?_ ?_; rotate_left
      ·exact u22_
      rotate_left
      ·exact u0_
      refine pure_ (i := 2) (N := some 13) (v := ?_) (a' := ?_) (bm_ 38 5) rfl rfl (any_of HT_.out u23_) (fun _ _ _ h => h) (Or.inl ⟨u82_, ?_⟩) ?_ ?_; rotate_left
      ·exact u22_
      rotate_left
      ·exact u0_
      refine take_ (i := 1) (N := some 12) (v := ?_) (a' := ?_) (bm_ 38 7) rfl rfl (take_ofW HT_.out HW_.out u23_) (fun _ _ _ h => h) (Or.inl ⟨u82_, ?_⟩) hHeld ?_ ?_; rotate_left
      ·rintro w' ⟨s0, s1, s2, s3⟩; go_simp; with_reducible rfl
      rotate_left
      ·exact u0_
      refine pure_ (i := 3) (N := some 14) (v := ?_) (a' := ?_) (bm_ 38 15) rfl rfl (any_of HT_.out u23_) (fun _ _ _ h => h) (Or.inl ⟨u82_, ?_⟩) ?_ ?_; rotate_left
      ·exact u22_
      rotate_left
      ·exact u0_
      refine pure_ (i := 4) (N := some 15) (v := ?_) (a' := ?_) (bm_ 38 31) rfl rfl (any_of HT_.out u23_) (fun _ _ _ h => h) (Or.inl ⟨u82_, ?_⟩) ?_ ?_; rotate_left
      ·exact u22_
      rotate_left
      ·exact u0_
      refine take_ (i := 5) (N := some 16) (v := ?_) (a' := ?_) (bm_ 38 63) rfl rfl (take_ofW HT_.out HW_.out u23_) (fun _ _ _ h => h) (Or.inl ⟨u82_, ?_⟩) hHeld ?_ ?_; rotate_left
      ·rintro w' ⟨s0, s1, s2, s3⟩; go_simp; with_reducible rfl
      rotate_left
      ·exact u0_
      refine one_ (i := 6) (N := some 17) (bm_ 38 127) rfl rfl (one_of HT_.out u23_) u52_ (fun K hK => ?_); refine goes_ Tryd.func69 u23_ rfl #[.string ((rd_T46 l0_1 x3_1).f0)] u82_ rfl rfl u1_ ?_; with_reducible refine (spec_NameOk.calls k1 ((rd_T46 l0_1 x3_1).f0) false _ A5.out).mono ?_
      rintro e w' ⟨rfl, ⟨nd, rfl⟩⟩; refine ⟨_, rfl, ?_⟩; refine hK.out _ _ ⟨(blk_cell BK410.out 0).trans rfl, (blk_cell BK410.out 1).trans rfl, ((HB.out.cell (World.block_lt_of_cell? w _ hw412_0)).trans hw412_0), ((HB.out.cell (World.block_lt_of_cell? w _ hw412_1)).trans hw412_1)⟩ (fun hHeld => ?_); clear hK K; refine norm_ (a' := ?_) ?_ ?_; rotate_left
      ·show Act.put _ (some 17) _ = _
       simp only [Act.put, List.setIfInBounds_toArray, List.set_cons_zero, List.set_cons_succ, i64_w, i32_w]; rfl
      refine pure_ (i := 7) (N := some 18) (v := ?_) (a' := ?_) (bm_ 38 255) rfl rfl (any_of HT_.out u23_) (fun _ _ _ h => h) (Or.inl ⟨u82_, ?_⟩) ?_ ?_; rotate_left
      ·exact u22_
      rotate_left
      ·exact u0_
      refine pure_ (i := 8) (N := some 19) (v := ?_) (a' := ?_) (bm_ 38 511) rfl rfl (any_of HT_.out u23_) (fun _ _ _ h => h) (Or.inl ⟨u82_, ?_⟩) ?_ ?_; rotate_left
      ·exact u22_
      rotate_left
      ·exact u0_
      refine pure_ (i := 9) (N := some 20) (v := undef) (a' := ?_) (bm_ 38 1023) rfl rfl (any_of HT_.out u23_) (fun _ _ _ h => h) (Or.inr ⟨u82_, rfl⟩) ?_ ?_; rotate_left
      ·exact u0_
      refine pure_ (i := 10) (N := some 21) (v := undef) (a' := ?_) (bm_ 38 2047) rfl rfl (any_of HT_.out u23_) (fun _ _ _ h => h) (Or.inr ⟨u82_, rfl⟩) ?_ ?_; rotate_left
      ·exact u0_
      refine pure_ (i := 11) (N := some 22) (v := undef) (a' := ?_) (bm_ 38 4095) rfl rfl (any_of HT_.out u23_) (fun _ _ _ h => h) (Or.inr ⟨u82_, rfl⟩) ?_ ?_; rotate_left
      ·exact u0_
      refine pure_ (i := 12) (N := some 23) (v := undef) (a' := ?_) (bm_ 38 8191) rfl rfl (any_of HT_.out u23_) (fun _ _ _ h => h) (Or.inr ⟨u82_, rfl⟩) ?_ ?_; rotate_left
      ·exact u0_
      refine pure_ (i := 13) (N := some 24) (v := undef) (a' := ?_) (bm_ 38 16383) rfl rfl (any_of HT_.out u23_) (fun _ _ _ h => h) (Or.inr ⟨u82_, rfl⟩) ?_ ?_; rotate_left
      ·exact u0_
      refine pure_ (i := 14) (N := some 25) (v := undef) (a' := ?_) (bm_ 38 32767) rfl rfl (any_of HT_.out u23_) (fun _ _ _ h => h) (Or.inr ⟨u82_, rfl⟩) ?_ ?_; rotate_left
      ·exact u0_
      refine pure_ (i := 15) (N := some 26) (v := undef) (a' := ?_) (bm_ 38 65535) rfl rfl (any_of HT_.out u23_) (fun _ _ _ h => h) (Or.inr ⟨u82_, rfl⟩) ?_ ?_; rotate_left
      ·exact u0_
      refine pure_ (i := 16) (N := some 27) (v := undef) (a' := ?_) (bm_ 38 131071) rfl rfl (any_of HT_.out u23_) (fun _ _ _ h => h) (Or.inr ⟨u82_, rfl⟩) ?_ ?_; rotate_left
      ·exact u0_
      refine pure_ (i := 17) (N := some 28) (v := ?_) (a' := ?_) (bm_ 38 262143) rfl rfl (any_of HT_.out u23_) (fun _ _ _ h => h) (Or.inl ⟨u82_, ?_⟩) ?_ ?_; rotate_left
      ·exact u22_
      rotate_left
      ·exact u0_
      refine pure_ (i := 18) (N := some 29) (v := ?_) (a' := ?_) (bm_ 38 524287) rfl rfl (any_of HT_.out u23_) (fun _ _ _ h => h) (Or.inl ⟨u82_, ?_⟩) ?_ ?_; rotate_left
      ·exact u22_
      rotate_left
      ·exact u0_
      refine pure_ (i := 19) (N := some 30) (v := undef) (a' := ?_) (bm_ 38 1048575) rfl rfl (any_of HT_.out u23_) (fun _ _ _ h => h) (Or.inr ⟨u82_, rfl⟩) ?_ ?_; rotate_left
      ·exact u0_
      refine pure_ (i := 20) (N := some 31) (v := undef) (a' := ?_) (bm_ 38 2097151) rfl rfl (any_of HT_.out u23_) (fun _ _ _ h => h) (Or.inr ⟨u82_, rfl⟩) ?_ ?_; rotate_left
      ·exact u0_
      refine pure_ (i := 21) (N := some 32) (v := undef) (a' := ?_) (bm_ 38 4194303) rfl rfl (any_of HT_.out u23_) (fun _ _ _ h => h) (Or.inr ⟨u82_, rfl⟩) ?_ ?_; rotate_left
      ·exact u0_
      refine pure_ (i := 22) (N := some 33) (v := undef) (a' := ?_) (bm_ 38 8388607) rfl rfl (any_of HT_.out u23_) (fun _ _ _ h => h) (Or.inr ⟨u82_, rfl⟩) ?_ ?_; rotate_left
      ·exact u0_
      refine pure_ (i := 23) (N := some 34) (v := undef) (a' := ?_) (bm_ 38 16777215) rfl rfl (any_of HT_.out u23_) (fun _ _ _ h => h) (Or.inr ⟨u82_, rfl⟩) ?_ ?_; rotate_left
      ·exact u0_
      refine pure_ (i := 24) (N := some 35) (v := undef) (a' := ?_) (bm_ 38 33554431) rfl rfl (any_of HT_.out u23_) (fun _ _ _ h => h) (Or.inr ⟨u82_, rfl⟩) ?_ ?_; rotate_left
      ·exact u0_
      refine pure_ (i := 25) (N := some 36) (v := undef) (a' := ?_) (bm_ 38 67108863) rfl rfl (any_of HT_.out u23_) (fun _ _ _ h => h) (Or.inr ⟨u82_, rfl⟩) ?_ ?_; rotate_left
      ·exact u0_
      refine pure_ (i := 26) (N := some 37) (v := undef) (a' := ?_) (bm_ 38 134217727) rfl rfl (any_of HT_.out u23_) (fun _ _ _ h => h) (Or.inr ⟨u82_, rfl⟩) ?_ ?_; rotate_left
      ·exact u0_
      refine pure_ (i := 27) (N := some 38) (v := undef) (a' := ?_) (bm_ 38 268435455) rfl rfl (any_of HT_.out u23_) (fun _ _ _ h => h) (Or.inr ⟨u82_, rfl⟩) ?_ ?_; rotate_left
      ·exact u0_
      refine pure_ (i := 28) (N := some 39) (v := undef) (a' := ?_) (bm_ 38 536870911) rfl rfl (any_of HT_.out u23_) (fun _ _ _ h => h) (Or.inr ⟨u82_, rfl⟩) ?_ ?_; rotate_left
      ·exact u0_
      refine pure_ (i := 29) (N := some 40) (v := undef) (a' := ?_) (bm_ 38 1073741823) rfl rfl (any_of HT_.out u23_) (fun _ _ _ h => h) (Or.inr ⟨u82_, rfl⟩) ?_ ?_; rotate_left
      ·exact u0_
      refine pure_ (i := 30) (N := some 41) (v := undef) (a' := ?_) (bm_ 38 2147483647) rfl rfl (any_of HT_.out u23_) (fun _ _ _ h => h) (Or.inr ⟨u82_, rfl⟩) ?_ ?_; rotate_left
      ·exact u0_
      refine pure_ (i := 31) (N := some 42) (v := undef) (a' := ?_) (bm_ 38 4294967295) rfl rfl (any_of HT_.out u23_) (fun _ _ _ h => h) (Or.inr ⟨u82_, rfl⟩) ?_ ?_; rotate_left
      ·exact u0_
      refine pure_ (i := 32) (N := some 43) (v := undef) (a' := ?_) (bm_ 38 8589934591) rfl rfl (any_of HT_.out u23_) (fun _ _ _ h => h) (Or.inr ⟨u82_, rfl⟩) ?_ ?_; rotate_left
      ·exact u0_
      refine pure_ (i := 33) (N := some 44) (v := undef) (a' := ?_) (bm_ 38 17179869183) rfl rfl (any_of HT_.out u23_) (fun _ _ _ h => h) (Or.inr ⟨u82_, rfl⟩) ?_ ?_; rotate_left
      ·exact u0_
      refine pure_ (i := 34) (N := some 45) (v := undef) (a' := ?_) (bm_ 38 34359738367) rfl rfl (any_of HT_.out u23_) (fun _ _ _ h => h) (Or.inr ⟨u82_, rfl⟩) ?_ ?_; rotate_left
      ·exact u0_
      refine pure_ (i := 35) (N := some 46) (v := undef) (a' := ?_) (bm_ 38 68719476735) rfl rfl (any_of HT_.out u23_) (fun _ _ _ h => h) (Or.inr ⟨u82_, rfl⟩) ?_ ?_; rotate_left
      ·exact u0_
      refine pure_ (i := 36) (N := some 47) (v := undef) (a' := ?_) (bm_ 38 137438953471) rfl rfl (any_of HT_.out u23_) (fun _ _ _ h => h) (Or.inr ⟨u82_, rfl⟩) ?_ ?_; rotate_left
      ·exact u0_
      refine pure_ (i := 37) (N := some 48) (v := ?_) (a' := ?_) (bm_ 38 274877906943) rfl rfl (any_of HT_.out u23_) (fun _ _ _ h => h) (Or.inl ⟨u82_, ?_⟩) ?_ ?_; rotate_left
      ·exact u22_
      rotate_left
      ·exact u0_
      refine done_ (done_of HT_.out u23_) ?_; try go_wp2
      go_ret
      exact ⟨u6_, u80_⟩
    ·exact u236_
   ·rw [if_neg c3] at H; have c3b0 : decide (x3_1 < (l0_1.length : Int)) = false := decide_eq_false c3; clear c3; replace H := Option.bind_eq_some_iff.mp H; obtain ⟨t411, A240, H⟩ := H; replace H : (if t411 = true then (some (decide ((l0_1.length : Int) ≤ 4))) else (some false)) = some r := H; have A24 := am_ A240; clear A240; by_cases c25 : t411 = true
    ·subst c25; rw [if_pos rfl] at H; obtain rfl := Option.some.inj H; have hcz26_0 : wr.cell? ⟨gb410, 0, none⟩ = some (.string a0_0) := (blk_cell BK410.out 0).trans rfl; have hcz26_1 : wr.cell? ⟨gb410, 1, none⟩ = some (.slice A0_1 l0_1.length c0_1) := (blk_cell BK410.out 1).trans rfl; have hfz26_0 := blk_frozen BK410.out 0; have hfz26_1 := blk_frozen BK410.out 1; go_wp2_with (first | ((with_reducible refine gate_callee (f := 69) rfl ?_); refine goesL_ (some 51) rfl rfl Tryd.func69 u23_ rfl #[.string a0_0] rfl u1_ ?_; (with_reducible refine (spec_NameOk.calls k1 a0_0 true _ A24.out).mono ?_); rintro e w' ⟨rfl, ⟨nd, rfl⟩⟩; refine ⟨_, rfl, ?_⟩))
     go_ret
     exact ⟨u6_, u80_⟩
    ·replace c25 := Bool.eq_false_iff.mpr c25; subst c25; rw [if_neg (show ¬ (false = true) by decide)] at H; obtain rfl := Option.some.inj H; have hcz27_0 : wr.cell? ⟨gb410, 0, none⟩ = some (.string a0_0) := (blk_cell BK410.out 0).trans rfl; have hcz27_1 : wr.cell? ⟨gb410, 1, none⟩ = some (.slice A0_1 l0_1.length c0_1) := (blk_cell BK410.out 1).trans rfl; have hfz27_0 := blk_frozen BK410.out 0; have hfz27_1 := blk_frozen BK410.out 1; go_wp2_with (first | ((with_reducible refine gate_callee (f := 69) rfl ?_); refine goesL_ (some 51) rfl rfl Tryd.func69 u23_ rfl #[.string a0_0] rfl u1_ ?_; (with_reducible refine (spec_NameOk.calls k1 a0_0 false _ A24.out).mono ?_); rintro e w' ⟨rfl, ⟨nd, rfl⟩⟩; refine ⟨_, rfl, ?_⟩))
     go_ret
     exact ⟨u6_, u80_⟩

end Go.Proofs.YtelcdhjdlgedeaaDoor.PFnDocOk
