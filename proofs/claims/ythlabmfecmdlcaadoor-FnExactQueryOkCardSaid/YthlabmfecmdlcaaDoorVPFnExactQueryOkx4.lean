/- Contracts of Go functions that the law FnExactQueryOk reaches: each is told as a plain Lean function, with the walk that shows it; no condition beyond what each states. Written by a program of this session round the kit's printer. -/
import Derived.Test.YthlabmfecmdlcaaDoorVPFnExactQueryOkx0
import Derived.Test.YthlabmfecmdlcaaDoorVPFnExactQueryOkx1
import Derived.Test.YthlabmfecmdlcaaDoorVPFnExactQueryOkx2
import Derived.Test.YthlabmfecmdlcaaDoorVPFnExactQueryOkx3
namespace Go.Proofs.YthlabmfecmdlcaaDoor.PFnExactQueryOk
open Go.RowKit Go.Proofs.YthlabmfecmdlcaaDoorW.PrintWords Go.Proofs.YthlabmfecmdlcaaDoorW.PrintLast Go.Proofs.YthlabmfecmdlcaaDoorW.PrintMore
attribute [local go_sem] isSome_setCell run_str_geq run_str_leq max2_int min2_int max_two min_two max_three min_three max_four min_four   -- for this text's walks alone
set_option linter.unusedVariables false
set_option linter.unusedSimpArgs false

/-! ### spec_l5Leaf: function 14 -/
mutual
def spec_l5Leaf.j0 : Nat → Bool → Int → ByteArray → ByteArray → Int → Int → List (S29) → Option (Bool)
 | 0, _, _, _, _, _, _, _ => none
 | k + 1, x3, x137000, x137001, x137002, x137003, x137004, x137005 => if x137003 = 0 then (spec_l5Leaf.j1 k x3 (x137004 == 0) x137000 x137001 x137002 x137003 x137004 x137005) else (spec_l5Leaf.j1 k x3 false x137000 x137001 x137002 x137003 x137004 x137005)
def spec_l5Leaf.j1 : Nat → Bool → Bool → Int → ByteArray → ByteArray → Int → Int → List (S29) → Option (Bool)
 | 0, _, _, _, _, _, _, _, _ => none
 | k + 1, x3, x4, x137000, x137001, x137002, x137003, x137004, x137005 => if x137000 = 1 then (if x137001.toList = ([] : List UInt8) then (if x137002.toList = ([] : List UInt8) then (some x4) else (some false)) else (some false)) else (if x137000 = 2 then (if x3 = true then (if x4 = true then (if (x137002.size : Int) ≤ 60 then ((spec_l5Words.f k x137002).bind fun t138 => (if t138 = 1 then ((spec_Stem.f k x137002).bind fun t139 => (some (t139.toList != ([] : List UInt8)))) else (some false))) else (some false)) else (some false)) else (some false)) else (if x137000 = 3 then (if x3 = true then (if x4 = true then (if (x137002.size : Int) ≤ 60 then ((spec_l5Words.f k x137002).bind fun t140 => ((spec_l1In.f t140 2 4).bind fun t141 => (some t141))) else (some false)) else (some false)) else (some false)) else (if x137000 = 4 then (if x3 = true then (if x4 = true then ((spec_l1In.f (x137002.size : Int) 1 12).bind fun t142 => (if t142 = true then ((spec_l5Words.f k x137002).bind fun t143 => (if t143 = 1 then ((spec_Fold.f k x137002).bind fun t144 => (some (t144.toList == x137002.toList))) else (some false))) else (some false))) else (some false)) else (some false)) else (if x137000 = 5 then ((spec_NameOk.f k x137001).bind fun t145 => (if t145 = true then (if x137002.toList = ([] : List UInt8) then ((spec_l1In.f x137003 (-999999999) 999999999).bind fun t146 => (if t146 = true then ((spec_l1In.f x137004 (-999999999) 999999999).bind fun t147 => (some t147)) else (some false))) else (some false)) else (some false))) else (if x137000 = 6 then ((spec_NameOk.f k x137001).bind fun t148 => (if t148 = true then ((spec_NameOk.f k x137002).bind fun t149 => (if t149 = true then (some x4) else (some false))) else (some false))) else (some false))))))
end
def spec_l5Leaf.f (k : Nat) (a0_0 : Int) (a0_1 : ByteArray) (a0_2 : ByteArray) (a0_3 : Int) (a0_4 : Int) (l0_5 : List (S29)) : Option (Bool) := if a0_1.toList = ([] : List UInt8) then (spec_l5Leaf.j0 k true a0_0 a0_1 a0_2 a0_3 a0_4 l0_5) else ((spec_NameOk.f k a0_1).bind fun t137 => (spec_l5Leaf.j0 k t137 a0_0 a0_1 a0_2 a0_3 a0_4 l0_5))
theorem spec_l5Leaf.mono_l : ∀ k, (∀ y0 y1 y2 y3 y4 y5 y6, LeO (spec_l5Leaf.j0 k y0 y1 y2 y3 y4 y5 y6) (spec_l5Leaf.j0 (k + 1) y0 y1 y2 y3 y4 y5 y6)) ∧ (∀ y0 y1 y2 y3 y4 y5 y6 y7, LeO (spec_l5Leaf.j1 k y0 y1 y2 y3 y4 y5 y6 y7) (spec_l5Leaf.j1 (k + 1) y0 y1 y2 y3 y4 y5 y6 y7))
 | 0 => ⟨fun _ _ _ _ _ _ _ r h => by simp [spec_l5Leaf.j0] at h, fun _ _ _ _ _ _ _ _ r h => by simp [spec_l5Leaf.j1] at h⟩
 | k + 1 => by
  obtain ⟨ih0, ih1⟩ := spec_l5Leaf.mono_l k; refine ⟨?_, ?_⟩
  ·intro y0 y1 y2 y3 y4 y5 y6; unfold spec_l5Leaf.j0
   repeat' first
   | (with_reducible exact ih0 _ _ _ _ _ _ _)
   | (with_reducible exact ih1 _ _ _ _ _ _ _ _)
   | (with_reducible exact spec_Fold.mono _ _)
   | (with_reducible exact spec_NameOk.mono _ _)
   | (with_reducible exact spec_Stem.mono _ _)
   | (with_reducible exact spec_l5Words.mono _ _)
   | (with_reducible exact LeO.refl _)
   | (with_reducible exact LeO.none _)
   | (with_reducible refine LeO.ite ?_ ?_)
   | (with_reducible refine LeO.bind ?_ (fun _ => ?_))
   | exact ih0 _ _ _ _ _ _ _
   | exact ih1 _ _ _ _ _ _ _ _
   | exact spec_Fold.mono _ _
   | exact spec_NameOk.mono _ _
   | exact spec_Stem.mono _ _
   | exact spec_l5Words.mono _ _
   | exact LeO.none _
   | refine LeO.ite ?_ ?_
   | refine LeO.bind ?_ (fun _ => ?_)
  ·intro y0 y1 y2 y3 y4 y5 y6 y7; unfold spec_l5Leaf.j1
   repeat' first
   | (with_reducible exact ih0 _ _ _ _ _ _ _)
   | (with_reducible exact ih1 _ _ _ _ _ _ _ _)
   | (with_reducible exact spec_Fold.mono _ _)
   | (with_reducible exact spec_NameOk.mono _ _)
   | (with_reducible exact spec_Stem.mono _ _)
   | (with_reducible exact spec_l5Words.mono _ _)
   | (with_reducible exact LeO.refl _)
   | (with_reducible exact LeO.none _)
   | (with_reducible refine LeO.ite ?_ ?_)
   | (with_reducible refine LeO.bind ?_ (fun _ => ?_))
   | exact ih0 _ _ _ _ _ _ _
   | exact ih1 _ _ _ _ _ _ _ _
   | exact spec_Fold.mono _ _
   | exact spec_NameOk.mono _ _
   | exact spec_Stem.mono _ _
   | exact spec_l5Words.mono _ _
   | exact LeO.none _
   | refine LeO.ite ?_ ?_
   | refine LeO.bind ?_ (fun _ => ?_)
theorem spec_l5Leaf.mono : ∀ a0 a1 a2 a3 a4 a5 k, LeO (spec_l5Leaf.f k a0 a1 a2 a3 a4 a5) (spec_l5Leaf.f (k + 1) a0 a1 a2 a3 a4 a5) := by
 intro a0 a1 a2 a3 a4 a5 k; obtain ⟨ih0, ih1⟩ := spec_l5Leaf.mono_l k; unfold spec_l5Leaf.f
 repeat' first
   | (with_reducible exact ih0 _ _ _ _ _ _ _)
   | (with_reducible exact ih1 _ _ _ _ _ _ _ _)
   | (with_reducible exact spec_Fold.mono _ _)
   | (with_reducible exact spec_NameOk.mono _ _)
   | (with_reducible exact spec_Stem.mono _ _)
   | (with_reducible exact spec_l5Words.mono _ _)
   | (with_reducible exact LeO.refl _)
   | (with_reducible exact LeO.none _)
   | (with_reducible refine LeO.ite ?_ ?_)
   | (with_reducible refine LeO.bind ?_ (fun _ => ?_))
   | exact ih0 _ _ _ _ _ _ _
   | exact ih1 _ _ _ _ _ _ _ _
   | exact spec_Fold.mono _ _
   | exact spec_NameOk.mono _ _
   | exact spec_Stem.mono _ _
   | exact spec_l5Words.mono _ _
   | exact LeO.none _
   | refine LeO.ite ?_ ?_
   | refine LeO.bind ?_ (fun _ => ?_)
def spec_l5Leaf.T11 : Bool × List (List Nat × List Nat) := (true, [([], []), ([0], [0]), ([1], [1]), ([1, 2], [1, 2]), ([3, 1], [3]), ([4], [4]), ([5, 4], [4, 5]), ([6, 4], [4, 6]), ([7, 4, 4], [4, 7]), ([4, 8], [4, 8]), ([9, 8], [9]), ([10], [10]), ([11, 10], [10, 11]), ([12, 10, 10], [10, 12]), ([13, 10], [10, 13]), ([10, 14], [10, 14]), ([15, 13], [15]), ([16], [16]), ([17, 16], [16, 17]), ([18, 16, 16], [16, 18]), ([16], [16]), ([20, 16], [16, 20]), ([19, 21, 16], [16, 19, 21]), ([16, 22], [16, 22]), ([23, 19, 0, 1, 2, 3, 4, 5, 6, 7, 8, 9, 10, 11, 12, 13, 14, 15, 16, 17, 18, 19, 20, 21, 22, 23], [23])])
def spec_l5Leaf.B11 : List Nat := [0, 1, 3, 7, 15, 31, 63, 127, 255, 511, 1023, 2047, 4095, 8191, 16383, 32767, 65535, 131071, 262143, 524287, 131071, 1179647, 4194303, 8388607, 16777215]
theorem spec_l5Leaf.tab11 : rtab .any (opsOf Tryd.f14 11) = spec_l5Leaf.T11 := by kernel_rfl
theorem spec_l5Leaf.bits11 : waitsOk spec_l5Leaf.T11.2 spec_l5Leaf.B11 = true := by kernel_rfl
set_option maxHeartbeats 8000000 in
set_option maxRecDepth 100000 in
theorem spec_l5Leaf.calls (k : Nat) (a0_0 : Int) (a0_1 : ByteArray) (a0_2 : ByteArray) (a0_3 : Int) (a0_4 : Int) (A0_5 : Option Addr) (c0_5 : Nat) (l0_5 : List (S29)) (r : Bool) (w : World) (hr0_5 : Kd.C k29 w A0_5 l0_5.length l0_5) (hc0_5 : l0_5.length ≤ c0_5) (h : spec_l5Leaf.f k a0_0 a0_1 a0_2 a0_3 a0_4 l0_5 = some r) :
  Calls Tryd.prog 14 #[.agg #[.int .i64 a0_0, .string a0_1, .string a0_2, .int .i64 a0_3, .int .i64 a0_4, .slice A0_5 l0_5.length c0_5]] w fun e w' => e = .returned (.bool r) ∧ Below w.heap.size w w' := by
 have hu29 := Tryd.underlying29; have HR0_5 := am_ hr0_5; have HC0_5 := am_ hc0_5; clear hr0_5 hc0_5; have HB := am_ (Below.refl w.heap.size w); have H : (if a0_1.toList = ([] : List UInt8) then (spec_l5Leaf.j0 k true a0_0 a0_1 a0_2 a0_3 a0_4 l0_5) else ((spec_NameOk.f k a0_1).bind fun t137 => (spec_l5Leaf.j0 k t137 a0_0 a0_1 a0_2 a0_3 a0_4 l0_5))) = some r := h; clear h; have HC2 := am_ H; clear H; go_enter Tryd.func14, Tryd.ntmps14
 go_upto_region 1 with (first | ((with_reducible refine gate_dst (N := 1) rfl ?_); (try (refine gate_guard u30_ ?_; dsimp only)); refine box_event ?hg (N := 1) ?hd (cs := #[.int .i64 a0_0, .string a0_1, .string a0_2, .int .i64 a0_3, .int .i64 a0_4, .slice A0_5 l0_5.length c0_5]) (t := 29) ?hr ?_; (case hd => rfl); (case hg => rfl); (case hr => exact u26_); intro gb136 hg w3 hbox hb; have BK136 := am_ (hbox); have GW136 := am_ ((by rw [hg]; exact (below_size u1_) : w.heap.size ≤ gb136)); have GE136 := GW136; replace HB := am_ (below_step u1_ hb); clear hb hbox hg))
 (try simp only [Act.put, List.setIfInBounds_toArray, List.set_cons_zero, List.set_cons_succ])
 go_cut [3] (fun v3 wc => ∃ (kq : Nat) (x3_1 : Bool), v3 = .bool x3_1 ∧ Aside0 (spec_l5Leaf.j0 kq x3_1 a0_0 a0_1 a0_2 a0_3 a0_4 l0_5 = some r) ∧ Aside0 (kq ≤ k) ∧ Aside0 (wc.heap[gb136]? = some (.cells #[.int .i64 a0_0, .string a0_1, .string a0_2, .int .i64 a0_3, .int .i64 a0_4, (.slice A0_5 l0_5.length c0_5)] 29 (0, 0))) ∧ Aside0 (Below w.heap.size w wc))
 case first =>
  have H := HC2.out; clear HC2; by_cases c4 : a0_1.toList = ([] : List UInt8)
  ·rw [if_pos c4] at H; have c4b0 : (a0_1.toList == ([] : List UInt8)) = true := beq_iff_eq.mpr c4; have c4b1 : (a0_1.toList != ([] : List UInt8)) = false := bne_eq_false_iff_eq.mpr c4; clear c4; (first | rw [c4b0] | (simp only [i64_w, i32_w]; rw [c4b0]) | skip)
   have H' := am_ H; clear H; have hcz5_0 : w3.cell? ⟨gb136, 0, none⟩ = some (.int .i64 a0_0) := (blk_cell BK136.out 0).trans rfl; have hcz5_1 : w3.cell? ⟨gb136, 1, none⟩ = some (.string a0_1) := (blk_cell BK136.out 1).trans rfl; have hcz5_2 : w3.cell? ⟨gb136, 2, none⟩ = some (.string a0_2) := (blk_cell BK136.out 2).trans rfl; have hcz5_3 : w3.cell? ⟨gb136, 3, none⟩ = some (.int .i64 a0_3) := (blk_cell BK136.out 3).trans rfl; have hcz5_4 : w3.cell? ⟨gb136, 4, none⟩ = some (.int .i64 a0_4) := (blk_cell BK136.out 4).trans rfl; have hcz5_5 : w3.cell? ⟨gb136, 5, none⟩ = some (.slice A0_5 l0_5.length c0_5) := (blk_cell BK136.out 5).trans rfl; have hfz5_0 := blk_frozen BK136.out 0; have hfz5_1 := blk_frozen BK136.out 1; have hfz5_2 := blk_frozen BK136.out 2; have hfz5_3 := blk_frozen BK136.out 3; have hfz5_4 := blk_frozen BK136.out 4; have hfz5_5 := blk_frozen BK136.out 5; go_wp2; go_meet
   case rel => exact ⟨_, (true), u20_, H', ⟨u46_⟩, ⟨u31_⟩, ⟨u9_⟩⟩
  ·rw [if_neg c4] at H; have c4b0 : (a0_1.toList == ([] : List UInt8)) = false := beq_eq_false_iff_ne.mpr c4; have c4b1 : (a0_1.toList != ([] : List UInt8)) = true := bne_iff_ne.mpr c4; (first | rw [c4b0] | (simp only [i64_w, i32_w]; rw [c4b0]) | skip)
   replace H := Option.bind_eq_some_iff.mp H; obtain ⟨t137, A60, H⟩ := H; replace H : (spec_l5Leaf.j0 k t137 a0_0 a0_1 a0_2 a0_3 a0_4 l0_5) = some r := H; have A6 := am_ A60; clear A60; have H' := am_ H; clear H; have hcz7_0 : w3.cell? ⟨gb136, 0, none⟩ = some (.int .i64 a0_0) := (blk_cell BK136.out 0).trans rfl; have hcz7_1 : w3.cell? ⟨gb136, 1, none⟩ = some (.string a0_1) := (blk_cell BK136.out 1).trans rfl; have hcz7_2 : w3.cell? ⟨gb136, 2, none⟩ = some (.string a0_2) := (blk_cell BK136.out 2).trans rfl; have hcz7_3 : w3.cell? ⟨gb136, 3, none⟩ = some (.int .i64 a0_3) := (blk_cell BK136.out 3).trans rfl; have hcz7_4 : w3.cell? ⟨gb136, 4, none⟩ = some (.int .i64 a0_4) := (blk_cell BK136.out 4).trans rfl; have hcz7_5 : w3.cell? ⟨gb136, 5, none⟩ = some (.slice A0_5 l0_5.length c0_5) := (blk_cell BK136.out 5).trans rfl; have hfz7_0 := blk_frozen BK136.out 0; have hfz7_1 := blk_frozen BK136.out 1; have hfz7_2 := blk_frozen BK136.out 2; have hfz7_3 := blk_frozen BK136.out 3; have hfz7_4 := blk_frozen BK136.out 4; have hfz7_5 := blk_frozen BK136.out 5; go_wp2_with (first | (go_at_call 22; (with_reducible refine (spec_NameOk.calls k a0_1 t137 _ A6.out).mono ?_); rintro e w' ⟨rfl, ⟨nd, rfl⟩⟩))
   go_meet
   case rel => exact ⟨_, (t137), u20_, H', ⟨u46_⟩, ⟨u31_⟩, ⟨u9_⟩⟩
 case rest =>
  clear HC2; try clear c1
  try clear p2
  try clear c4
  try clear c4b0
  try clear c4b1
  try clear hcz5_0
  try clear hcz5_1
  try clear hcz5_2
  try clear hcz5_3
  try clear hcz5_4
  try clear hcz5_5
  try clear hcz7_0
  try clear hcz7_1
  try clear hcz7_2
  try clear hcz7_3
  try clear hcz7_4
  try clear hcz7_5
  try clear hfz5_0
  try clear hfz5_1
  try clear hfz5_2
  try clear hfz5_3
  try clear hfz5_4
  try clear hfz5_5
  try clear hfz7_0
  try clear hfz7_1
  try clear hfz7_2
  try clear hfz7_3
  try clear hfz7_4
  try clear hfz7_5
  obtain ⟨kq, x3_1, rfl, HA, HJ1, BK136, HB⟩ := hcut; cases kq with
  | zero => exact absurd HA.out (by simp [spec_l5Leaf.j0])
  | succ kj1 =>
   have H := HA.out; clear HA; simp only [spec_l5Leaf.j0] at H; have HC8 := am_ H; clear H; go_upto_region 2 with (fail)
   go_cut [4] (fun v4 wc => ∃ (kq : Nat) (x4_7 : Bool), v4 = .bool x4_7 ∧ Aside0 (spec_l5Leaf.j1 kq x3_1 x4_7 a0_0 a0_1 a0_2 a0_3 a0_4 l0_5 = some r) ∧ Aside0 (kq ≤ kj1) ∧ Aside0 (wc.heap[gb136]? = some (.cells #[.int .i64 a0_0, .string a0_1, .string a0_2, .int .i64 a0_3, .int .i64 a0_4, (.slice A0_5 l0_5.length c0_5)] 29 (0, 0))) ∧ Aside0 (Below w.heap.size w wc))
   case first =>
    have H := HC8.out; clear HC8; by_cases c9 : a0_3 = 0
    ·rw [if_pos c9] at H; have c9b0 : (a0_3 == 0) = true := beq_iff_eq.mpr c9; have c9b1 : (a0_3 != 0) = false := bne_eq_false_iff_eq.mpr c9; clear c9; (first | rw [c9b0] | (simp only [i64_w, i32_w]; rw [c9b0]) | skip)
     have H' := am_ H; clear H; have hcz10_0 : wc.cell? ⟨gb136, 0, none⟩ = some (.int .i64 a0_0) := (blk_cell BK136.out 0).trans rfl; have hcz10_1 : wc.cell? ⟨gb136, 1, none⟩ = some (.string a0_1) := (blk_cell BK136.out 1).trans rfl; have hcz10_2 : wc.cell? ⟨gb136, 2, none⟩ = some (.string a0_2) := (blk_cell BK136.out 2).trans rfl; have hcz10_3 : wc.cell? ⟨gb136, 3, none⟩ = some (.int .i64 a0_3) := (blk_cell BK136.out 3).trans rfl; have hcz10_4 : wc.cell? ⟨gb136, 4, none⟩ = some (.int .i64 a0_4) := (blk_cell BK136.out 4).trans rfl; have hcz10_5 : wc.cell? ⟨gb136, 5, none⟩ = some (.slice A0_5 l0_5.length c0_5) := (blk_cell BK136.out 5).trans rfl; have hfz10_0 := blk_frozen BK136.out 0; have hfz10_1 := blk_frozen BK136.out 1; have hfz10_2 := blk_frozen BK136.out 2; have hfz10_3 := blk_frozen BK136.out 3; have hfz10_4 := blk_frozen BK136.out 4; have hfz10_5 := blk_frozen BK136.out 5; go_wp2; go_meet
     case rel => exact ⟨_, ((a0_4 == 0)), u20_, H', ⟨by have := HJ1.out; first | omega | exact Nat.le_refl _⟩, ⟨u31_⟩, ⟨u9_⟩⟩
    ·rw [if_neg c9] at H; have c9b0 : (a0_3 == 0) = false := beq_eq_false_iff_ne.mpr c9; have c9b1 : (a0_3 != 0) = true := bne_iff_ne.mpr c9; (first | rw [c9b0] | (simp only [i64_w, i32_w]; rw [c9b0]) | skip)
     have H' := am_ H; clear H; have hcz11_0 : wc.cell? ⟨gb136, 0, none⟩ = some (.int .i64 a0_0) := (blk_cell BK136.out 0).trans rfl; have hcz11_1 : wc.cell? ⟨gb136, 1, none⟩ = some (.string a0_1) := (blk_cell BK136.out 1).trans rfl; have hcz11_2 : wc.cell? ⟨gb136, 2, none⟩ = some (.string a0_2) := (blk_cell BK136.out 2).trans rfl; have hcz11_3 : wc.cell? ⟨gb136, 3, none⟩ = some (.int .i64 a0_3) := (blk_cell BK136.out 3).trans rfl; have hcz11_4 : wc.cell? ⟨gb136, 4, none⟩ = some (.int .i64 a0_4) := (blk_cell BK136.out 4).trans rfl; have hcz11_5 : wc.cell? ⟨gb136, 5, none⟩ = some (.slice A0_5 l0_5.length c0_5) := (blk_cell BK136.out 5).trans rfl; have hfz11_0 := blk_frozen BK136.out 0; have hfz11_1 := blk_frozen BK136.out 1; have hfz11_2 := blk_frozen BK136.out 2; have hfz11_3 := blk_frozen BK136.out 3; have hfz11_4 := blk_frozen BK136.out 4; have hfz11_5 := blk_frozen BK136.out 5; go_wp2; go_meet
     case rel => exact ⟨_, (false), u20_, H', ⟨by have := HJ1.out; first | omega | exact Nat.le_refl _⟩, ⟨u31_⟩, ⟨u9_⟩⟩
   case rest =>
    clear HC8; try clear c1
    try clear p2
    try clear c4
    try clear c4b0
    try clear c4b1
    try clear c9
    try clear c9b0
    try clear c9b1
    try clear hcz10_0
    try clear hcz10_1
    try clear hcz10_2
    try clear hcz10_3
    try clear hcz10_4
    try clear hcz10_5
    try clear hcz11_0
    try clear hcz11_1
    try clear hcz11_2
    try clear hcz11_3
    try clear hcz11_4
    try clear hcz11_5
    try clear hcz5_0
    try clear hcz5_1
    try clear hcz5_2
    try clear hcz5_3
    try clear hcz5_4
    try clear hcz5_5
    try clear hcz7_0
    try clear hcz7_1
    try clear hcz7_2
    try clear hcz7_3
    try clear hcz7_4
    try clear hcz7_5
    try clear hfz10_0
    try clear hfz10_1
    try clear hfz10_2
    try clear hfz10_3
    try clear hfz10_4
    try clear hfz10_5
    try clear hfz11_0
    try clear hfz11_1
    try clear hfz11_2
    try clear hfz11_3
    try clear hfz11_4
    try clear hfz11_5
    try clear hfz5_0
    try clear hfz5_1
    try clear hfz5_2
    try clear hfz5_3
    try clear hfz5_4
    try clear hfz5_5
    try clear hfz7_0
    try clear hfz7_1
    try clear hfz7_2
    try clear hfz7_3
    try clear hfz7_4
    try clear hfz7_5
    try clear p2
    obtain ⟨kq, x4_7, rfl, HA, HJ7, BK136, HB⟩ := hcut; cases kq with
    | zero => exact absurd HA.out (by simp [spec_l5Leaf.j1])
    | succ kj7 =>
     have H := HA.out; clear HA; simp only [spec_l5Leaf.j1] at H; by_cases c12 : a0_0 = 1
     ·rw [if_pos c12] at H; have c12b0 : (a0_0 == 1) = true := beq_iff_eq.mpr c12; have c12b1 : (a0_0 != 1) = false := bne_eq_false_iff_eq.mpr c12; clear c12; by_cases c13 : a0_1.toList = ([] : List UInt8)
      ·rw [if_pos c13] at H; have c13b0 : (a0_1.toList == ([] : List UInt8)) = true := beq_iff_eq.mpr c13; have c13b1 : (a0_1.toList != ([] : List UInt8)) = false := bne_eq_false_iff_eq.mpr c13; clear c13; by_cases c14 : a0_2.toList = ([] : List UInt8)
       ·rw [if_pos c14] at H; have c14b0 : (a0_2.toList == ([] : List UInt8)) = true := beq_iff_eq.mpr c14; have c14b1 : (a0_2.toList != ([] : List UInt8)) = false := bne_eq_false_iff_eq.mpr c14; clear c14; obtain rfl := Option.some.inj H; have hcz15_0 : wc.cell? ⟨gb136, 0, none⟩ = some (.int .i64 a0_0) := (blk_cell BK136.out 0).trans rfl; have hcz15_1 : wc.cell? ⟨gb136, 1, none⟩ = some (.string a0_1) := (blk_cell BK136.out 1).trans rfl; have hcz15_2 : wc.cell? ⟨gb136, 2, none⟩ = some (.string a0_2) := (blk_cell BK136.out 2).trans rfl; have hcz15_3 : wc.cell? ⟨gb136, 3, none⟩ = some (.int .i64 a0_3) := (blk_cell BK136.out 3).trans rfl; have hcz15_4 : wc.cell? ⟨gb136, 4, none⟩ = some (.int .i64 a0_4) := (blk_cell BK136.out 4).trans rfl; have hcz15_5 : wc.cell? ⟨gb136, 5, none⟩ = some (.slice A0_5 l0_5.length c0_5) := (blk_cell BK136.out 5).trans rfl; have hfz15_0 := blk_frozen BK136.out 0; have hfz15_1 := blk_frozen BK136.out 1; have hfz15_2 := blk_frozen BK136.out 2; have hfz15_3 := blk_frozen BK136.out 3; have hfz15_4 := blk_frozen BK136.out 4; have hfz15_5 := blk_frozen BK136.out 5; go_wp2; go_ret
        exact ⟨u2_, u9_⟩
       ·rw [if_neg c14] at H; have c14b0 : (a0_2.toList == ([] : List UInt8)) = false := beq_eq_false_iff_ne.mpr c14; have c14b1 : (a0_2.toList != ([] : List UInt8)) = true := bne_iff_ne.mpr c14; obtain rfl := Option.some.inj H; have hcz16_0 : wc.cell? ⟨gb136, 0, none⟩ = some (.int .i64 a0_0) := (blk_cell BK136.out 0).trans rfl; have hcz16_1 : wc.cell? ⟨gb136, 1, none⟩ = some (.string a0_1) := (blk_cell BK136.out 1).trans rfl; have hcz16_2 : wc.cell? ⟨gb136, 2, none⟩ = some (.string a0_2) := (blk_cell BK136.out 2).trans rfl; have hcz16_3 : wc.cell? ⟨gb136, 3, none⟩ = some (.int .i64 a0_3) := (blk_cell BK136.out 3).trans rfl; have hcz16_4 : wc.cell? ⟨gb136, 4, none⟩ = some (.int .i64 a0_4) := (blk_cell BK136.out 4).trans rfl; have hcz16_5 : wc.cell? ⟨gb136, 5, none⟩ = some (.slice A0_5 l0_5.length c0_5) := (blk_cell BK136.out 5).trans rfl; have hfz16_0 := blk_frozen BK136.out 0; have hfz16_1 := blk_frozen BK136.out 1; have hfz16_2 := blk_frozen BK136.out 2; have hfz16_3 := blk_frozen BK136.out 3; have hfz16_4 := blk_frozen BK136.out 4; have hfz16_5 := blk_frozen BK136.out 5; go_wp2; go_ret
        exact ⟨u2_, u9_⟩
      ·rw [if_neg c13] at H; have c13b0 : (a0_1.toList == ([] : List UInt8)) = false := beq_eq_false_iff_ne.mpr c13; have c13b1 : (a0_1.toList != ([] : List UInt8)) = true := bne_iff_ne.mpr c13; obtain rfl := Option.some.inj H; have hcz17_0 : wc.cell? ⟨gb136, 0, none⟩ = some (.int .i64 a0_0) := (blk_cell BK136.out 0).trans rfl; have hcz17_1 : wc.cell? ⟨gb136, 1, none⟩ = some (.string a0_1) := (blk_cell BK136.out 1).trans rfl; have hcz17_2 : wc.cell? ⟨gb136, 2, none⟩ = some (.string a0_2) := (blk_cell BK136.out 2).trans rfl; have hcz17_3 : wc.cell? ⟨gb136, 3, none⟩ = some (.int .i64 a0_3) := (blk_cell BK136.out 3).trans rfl; have hcz17_4 : wc.cell? ⟨gb136, 4, none⟩ = some (.int .i64 a0_4) := (blk_cell BK136.out 4).trans rfl; have hcz17_5 : wc.cell? ⟨gb136, 5, none⟩ = some (.slice A0_5 l0_5.length c0_5) := (blk_cell BK136.out 5).trans rfl; have hfz17_0 := blk_frozen BK136.out 0; have hfz17_1 := blk_frozen BK136.out 1; have hfz17_2 := blk_frozen BK136.out 2; have hfz17_3 := blk_frozen BK136.out 3; have hfz17_4 := blk_frozen BK136.out 4; have hfz17_5 := blk_frozen BK136.out 5; go_wp2; go_ret
       exact ⟨u2_, u9_⟩
     ·rw [if_neg c12] at H; have c12b0 : (a0_0 == 1) = false := beq_eq_false_iff_ne.mpr c12; have c12b1 : (a0_0 != 1) = true := bne_iff_ne.mpr c12; by_cases c18 : a0_0 = 2
      ·rw [if_pos c18] at H; have c18b0 : (a0_0 == 2) = true := beq_iff_eq.mpr c18; have c18b1 : (a0_0 != 2) = false := bne_eq_false_iff_eq.mpr c18; clear c18; by_cases c19 : x3_1 = true
       ·subst c19; rw [if_pos rfl] at H; by_cases c20 : x4_7 = true
        ·subst c20; rw [if_pos rfl] at H; by_cases c21 : (a0_2.size : Int) ≤ 60
         ·rw [if_pos c21] at H; have c21b0 : decide ((a0_2.size : Int) ≤ 60) = true := decide_eq_true c21; have c21b1 : decide (a0_2.size ≤ 60) = true := decide_eq_true u52_; clear c21; replace H := Option.bind_eq_some_iff.mp H; obtain ⟨t138, A220, H⟩ := H; replace H : (if t138 = 1 then ((spec_Stem.f kj7 a0_2).bind fun t139 => (some (t139.toList != ([] : List UInt8)))) else (some false)) = some r := H; have A22 := am_ A220; clear A220; by_cases c23 : t138 = 1
          ·rw [if_pos c23] at H; have c23b0 : (t138 == 1) = true := beq_iff_eq.mpr c23; have c23b1 : (t138 != 1) = false := bne_eq_false_iff_eq.mpr c23; clear c23; replace H := Option.bind_eq_some_iff.mp H; obtain ⟨t139, A240, H⟩ := H; replace H : (some (t139.toList != ([] : List UInt8))) = some r := H; have A24 := am_ A240; clear A240; obtain rfl := Option.some.inj H; have hcz25_0 : wc.cell? ⟨gb136, 0, none⟩ = some (.int .i64 a0_0) := (blk_cell BK136.out 0).trans rfl; have hcz25_1 : wc.cell? ⟨gb136, 1, none⟩ = some (.string a0_1) := (blk_cell BK136.out 1).trans rfl; have hcz25_2 : wc.cell? ⟨gb136, 2, none⟩ = some (.string a0_2) := (blk_cell BK136.out 2).trans rfl; have hcz25_3 : wc.cell? ⟨gb136, 3, none⟩ = some (.int .i64 a0_3) := (blk_cell BK136.out 3).trans rfl; have hcz25_4 : wc.cell? ⟨gb136, 4, none⟩ = some (.int .i64 a0_4) := (blk_cell BK136.out 4).trans rfl; have hcz25_5 : wc.cell? ⟨gb136, 5, none⟩ = some (.slice A0_5 l0_5.length c0_5) := (blk_cell BK136.out 5).trans rfl; have hfz25_0 := blk_frozen BK136.out 0; have hfz25_1 := blk_frozen BK136.out 1; have hfz25_2 := blk_frozen BK136.out 2; have hfz25_3 := blk_frozen BK136.out 3; have hfz25_4 := blk_frozen BK136.out 4; have hfz25_5 := blk_frozen BK136.out 5; go_wp2_with (first | (go_at_call 23; (with_reducible refine (spec_l5Words.calls kj7 a0_2 t138 _ A22.out).mono ?_); rintro e w26 ⟨rfl, hb⟩; replace BK136 := am_ (blk_below (g := gb136) (o := .cells #[.int .i64 a0_0, .string a0_1, .string a0_2, .int .i64 a0_3, .int .i64 a0_4, .slice A0_5 l0_5.length c0_5] 29 (0, 0)) u31_ hb); replace HB := am_ (below_step u9_ hb); (try clear hb); (try clear hb2); (try clear hk); (try clear hi); have hcz27_0 : w26.cell? ⟨gb136, 0, none⟩ = some (.int .i64 a0_0) := (blk_cell BK136.out 0).trans rfl; have hcz27_1 : w26.cell? ⟨gb136, 1, none⟩ = some (.string a0_1) := (blk_cell BK136.out 1).trans rfl; have hcz27_2 : w26.cell? ⟨gb136, 2, none⟩ = some (.string a0_2) := (blk_cell BK136.out 2).trans rfl; have hcz27_3 : w26.cell? ⟨gb136, 3, none⟩ = some (.int .i64 a0_3) := (blk_cell BK136.out 3).trans rfl; have hcz27_4 : w26.cell? ⟨gb136, 4, none⟩ = some (.int .i64 a0_4) := (blk_cell BK136.out 4).trans rfl; have hcz27_5 : w26.cell? ⟨gb136, 5, none⟩ = some (.slice A0_5 l0_5.length c0_5) := (blk_cell BK136.out 5).trans rfl; have hfz27_0 := blk_frozen BK136.out 0; have hfz27_1 := blk_frozen BK136.out 1; have hfz27_2 := blk_frozen BK136.out 2; have hfz27_3 := blk_frozen BK136.out 3; have hfz27_4 := blk_frozen BK136.out 4; have hfz27_5 := blk_frozen BK136.out 5) | (go_at_call 24; (with_reducible refine (spec_Stem.calls kj7 a0_2 t139 _ A24.out).mono ?_); rintro e w28 ⟨rfl, hb⟩; replace BK136 := am_ (blk_below (g := gb136) (o := .cells #[.int .i64 a0_0, .string a0_1, .string a0_2, .int .i64 a0_3, .int .i64 a0_4, .slice A0_5 l0_5.length c0_5] 29 (0, 0)) u31_ hb); replace HB := am_ (below_step u9_ hb); (try clear hb); (try clear hb2); (try clear hk); (try clear hi)))
           go_ret
           exact ⟨u2_, u9_⟩
          ·rw [if_neg c23] at H; have c23b0 : (t138 == 1) = false := beq_eq_false_iff_ne.mpr c23; have c23b1 : (t138 != 1) = true := bne_iff_ne.mpr c23; obtain rfl := Option.some.inj H; have hcz29_0 : wc.cell? ⟨gb136, 0, none⟩ = some (.int .i64 a0_0) := (blk_cell BK136.out 0).trans rfl; have hcz29_1 : wc.cell? ⟨gb136, 1, none⟩ = some (.string a0_1) := (blk_cell BK136.out 1).trans rfl; have hcz29_2 : wc.cell? ⟨gb136, 2, none⟩ = some (.string a0_2) := (blk_cell BK136.out 2).trans rfl; have hcz29_3 : wc.cell? ⟨gb136, 3, none⟩ = some (.int .i64 a0_3) := (blk_cell BK136.out 3).trans rfl; have hcz29_4 : wc.cell? ⟨gb136, 4, none⟩ = some (.int .i64 a0_4) := (blk_cell BK136.out 4).trans rfl; have hcz29_5 : wc.cell? ⟨gb136, 5, none⟩ = some (.slice A0_5 l0_5.length c0_5) := (blk_cell BK136.out 5).trans rfl; have hfz29_0 := blk_frozen BK136.out 0; have hfz29_1 := blk_frozen BK136.out 1; have hfz29_2 := blk_frozen BK136.out 2; have hfz29_3 := blk_frozen BK136.out 3; have hfz29_4 := blk_frozen BK136.out 4; have hfz29_5 := blk_frozen BK136.out 5; go_wp2_with (first | (go_at_call 23; (with_reducible refine (spec_l5Words.calls kj7 a0_2 t138 _ A22.out).mono ?_); rintro e w30 ⟨rfl, hb⟩; replace BK136 := am_ (blk_below (g := gb136) (o := .cells #[.int .i64 a0_0, .string a0_1, .string a0_2, .int .i64 a0_3, .int .i64 a0_4, .slice A0_5 l0_5.length c0_5] 29 (0, 0)) u31_ hb); replace HB := am_ (below_step u9_ hb); (try clear hb); (try clear hb2); (try clear hk); (try clear hi)))
           go_ret
           exact ⟨u2_, u9_⟩
         ·rw [if_neg c21] at H; have c21b0 : decide ((a0_2.size : Int) ≤ 60) = false := decide_eq_false c21; have c21b1 : decide (a0_2.size ≤ 60) = false := decide_eq_false u52_; clear c21; obtain rfl := Option.some.inj H; have hcz31_0 : wc.cell? ⟨gb136, 0, none⟩ = some (.int .i64 a0_0) := (blk_cell BK136.out 0).trans rfl; have hcz31_1 : wc.cell? ⟨gb136, 1, none⟩ = some (.string a0_1) := (blk_cell BK136.out 1).trans rfl; have hcz31_2 : wc.cell? ⟨gb136, 2, none⟩ = some (.string a0_2) := (blk_cell BK136.out 2).trans rfl; have hcz31_3 : wc.cell? ⟨gb136, 3, none⟩ = some (.int .i64 a0_3) := (blk_cell BK136.out 3).trans rfl; have hcz31_4 : wc.cell? ⟨gb136, 4, none⟩ = some (.int .i64 a0_4) := (blk_cell BK136.out 4).trans rfl; have hcz31_5 : wc.cell? ⟨gb136, 5, none⟩ = some (.slice A0_5 l0_5.length c0_5) := (blk_cell BK136.out 5).trans rfl; have hfz31_0 := blk_frozen BK136.out 0; have hfz31_1 := blk_frozen BK136.out 1; have hfz31_2 := blk_frozen BK136.out 2; have hfz31_3 := blk_frozen BK136.out 3; have hfz31_4 := blk_frozen BK136.out 4; have hfz31_5 := blk_frozen BK136.out 5; go_wp2; go_ret
          exact ⟨u2_, u9_⟩
        ·replace c20 := Bool.eq_false_iff.mpr c20; subst c20; rw [if_neg (show ¬ (false = true) by decide)] at H; obtain rfl := Option.some.inj H; have hcz32_0 : wc.cell? ⟨gb136, 0, none⟩ = some (.int .i64 a0_0) := (blk_cell BK136.out 0).trans rfl; have hcz32_1 : wc.cell? ⟨gb136, 1, none⟩ = some (.string a0_1) := (blk_cell BK136.out 1).trans rfl; have hcz32_2 : wc.cell? ⟨gb136, 2, none⟩ = some (.string a0_2) := (blk_cell BK136.out 2).trans rfl; have hcz32_3 : wc.cell? ⟨gb136, 3, none⟩ = some (.int .i64 a0_3) := (blk_cell BK136.out 3).trans rfl; have hcz32_4 : wc.cell? ⟨gb136, 4, none⟩ = some (.int .i64 a0_4) := (blk_cell BK136.out 4).trans rfl; have hcz32_5 : wc.cell? ⟨gb136, 5, none⟩ = some (.slice A0_5 l0_5.length c0_5) := (blk_cell BK136.out 5).trans rfl; have hfz32_0 := blk_frozen BK136.out 0; have hfz32_1 := blk_frozen BK136.out 1; have hfz32_2 := blk_frozen BK136.out 2; have hfz32_3 := blk_frozen BK136.out 3; have hfz32_4 := blk_frozen BK136.out 4; have hfz32_5 := blk_frozen BK136.out 5; go_wp2; go_ret
         exact ⟨u2_, u9_⟩
       ·replace c19 := Bool.eq_false_iff.mpr c19; subst c19; rw [if_neg (show ¬ (false = true) by decide)] at H; obtain rfl := Option.some.inj H; have hcz33_0 : wc.cell? ⟨gb136, 0, none⟩ = some (.int .i64 a0_0) := (blk_cell BK136.out 0).trans rfl; have hcz33_1 : wc.cell? ⟨gb136, 1, none⟩ = some (.string a0_1) := (blk_cell BK136.out 1).trans rfl; have hcz33_2 : wc.cell? ⟨gb136, 2, none⟩ = some (.string a0_2) := (blk_cell BK136.out 2).trans rfl; have hcz33_3 : wc.cell? ⟨gb136, 3, none⟩ = some (.int .i64 a0_3) := (blk_cell BK136.out 3).trans rfl; have hcz33_4 : wc.cell? ⟨gb136, 4, none⟩ = some (.int .i64 a0_4) := (blk_cell BK136.out 4).trans rfl; have hcz33_5 : wc.cell? ⟨gb136, 5, none⟩ = some (.slice A0_5 l0_5.length c0_5) := (blk_cell BK136.out 5).trans rfl; have hfz33_0 := blk_frozen BK136.out 0; have hfz33_1 := blk_frozen BK136.out 1; have hfz33_2 := blk_frozen BK136.out 2; have hfz33_3 := blk_frozen BK136.out 3; have hfz33_4 := blk_frozen BK136.out 4; have hfz33_5 := blk_frozen BK136.out 5; go_wp2; go_ret
        exact ⟨u2_, u9_⟩
      ·rw [if_neg c18] at H; have c18b0 : (a0_0 == 2) = false := beq_eq_false_iff_ne.mpr c18; have c18b1 : (a0_0 != 2) = true := bne_iff_ne.mpr c18; by_cases c34 : a0_0 = 3
       ·rw [if_pos c34] at H; have c34b0 : (a0_0 == 3) = true := beq_iff_eq.mpr c34; have c34b1 : (a0_0 != 3) = false := bne_eq_false_iff_eq.mpr c34; clear c34; by_cases c35 : x3_1 = true
        ·subst c35; rw [if_pos rfl] at H; by_cases c36 : x4_7 = true
         ·subst c36; rw [if_pos rfl] at H; by_cases c37 : (a0_2.size : Int) ≤ 60
          ·rw [if_pos c37] at H; have c37b0 : decide ((a0_2.size : Int) ≤ 60) = true := decide_eq_true c37; have c37b1 : decide (a0_2.size ≤ 60) = true := decide_eq_true u52_; clear c37; replace H := Option.bind_eq_some_iff.mp H; obtain ⟨t140, A380, H⟩ := H; replace H : ((spec_l1In.f t140 2 4).bind fun t141 => (some t141)) = some r := H; have A38 := am_ A380; clear A380; replace H := Option.bind_eq_some_iff.mp H; obtain ⟨t141, A390, H⟩ := H; replace H : (some t141) = some r := H; have A39 := am_ A390; clear A390; obtain rfl := Option.some.inj H; have hcz40_0 : wc.cell? ⟨gb136, 0, none⟩ = some (.int .i64 a0_0) := (blk_cell BK136.out 0).trans rfl; have hcz40_1 : wc.cell? ⟨gb136, 1, none⟩ = some (.string a0_1) := (blk_cell BK136.out 1).trans rfl; have hcz40_2 : wc.cell? ⟨gb136, 2, none⟩ = some (.string a0_2) := (blk_cell BK136.out 2).trans rfl; have hcz40_3 : wc.cell? ⟨gb136, 3, none⟩ = some (.int .i64 a0_3) := (blk_cell BK136.out 3).trans rfl; have hcz40_4 : wc.cell? ⟨gb136, 4, none⟩ = some (.int .i64 a0_4) := (blk_cell BK136.out 4).trans rfl; have hcz40_5 : wc.cell? ⟨gb136, 5, none⟩ = some (.slice A0_5 l0_5.length c0_5) := (blk_cell BK136.out 5).trans rfl; have hfz40_0 := blk_frozen BK136.out 0; have hfz40_1 := blk_frozen BK136.out 1; have hfz40_2 := blk_frozen BK136.out 2; have hfz40_3 := blk_frozen BK136.out 3; have hfz40_4 := blk_frozen BK136.out 4; have hfz40_5 := blk_frozen BK136.out 5; go_wp2_with (first | (go_at_call 23; (with_reducible refine (spec_l5Words.calls kj7 a0_2 t140 _ A38.out).mono ?_); rintro e w41 ⟨rfl, hb⟩; replace BK136 := am_ (blk_below (g := gb136) (o := .cells #[.int .i64 a0_0, .string a0_1, .string a0_2, .int .i64 a0_3, .int .i64 a0_4, .slice A0_5 l0_5.length c0_5] 29 (0, 0)) u31_ hb); replace HB := am_ (below_step u9_ hb); (try clear hb); (try clear hb2); (try clear hk); (try clear hi)) | (go_at_call 15; (with_reducible refine (spec_l1In.calls t140 2 4 t141 _ A39.out).mono ?_); rintro e w' ⟨rfl, ⟨nd, rfl⟩⟩))
           go_ret
           exact ⟨u2_, u9_⟩
          ·rw [if_neg c37] at H; have c37b0 : decide ((a0_2.size : Int) ≤ 60) = false := decide_eq_false c37; have c37b1 : decide (a0_2.size ≤ 60) = false := decide_eq_false u52_; clear c37; obtain rfl := Option.some.inj H; have hcz42_0 : wc.cell? ⟨gb136, 0, none⟩ = some (.int .i64 a0_0) := (blk_cell BK136.out 0).trans rfl; have hcz42_1 : wc.cell? ⟨gb136, 1, none⟩ = some (.string a0_1) := (blk_cell BK136.out 1).trans rfl; have hcz42_2 : wc.cell? ⟨gb136, 2, none⟩ = some (.string a0_2) := (blk_cell BK136.out 2).trans rfl; have hcz42_3 : wc.cell? ⟨gb136, 3, none⟩ = some (.int .i64 a0_3) := (blk_cell BK136.out 3).trans rfl; have hcz42_4 : wc.cell? ⟨gb136, 4, none⟩ = some (.int .i64 a0_4) := (blk_cell BK136.out 4).trans rfl; have hcz42_5 : wc.cell? ⟨gb136, 5, none⟩ = some (.slice A0_5 l0_5.length c0_5) := (blk_cell BK136.out 5).trans rfl; have hfz42_0 := blk_frozen BK136.out 0; have hfz42_1 := blk_frozen BK136.out 1; have hfz42_2 := blk_frozen BK136.out 2; have hfz42_3 := blk_frozen BK136.out 3; have hfz42_4 := blk_frozen BK136.out 4; have hfz42_5 := blk_frozen BK136.out 5; go_wp2; go_ret
           exact ⟨u2_, u9_⟩
         ·replace c36 := Bool.eq_false_iff.mpr c36; subst c36; rw [if_neg (show ¬ (false = true) by decide)] at H; obtain rfl := Option.some.inj H; have hcz43_0 : wc.cell? ⟨gb136, 0, none⟩ = some (.int .i64 a0_0) := (blk_cell BK136.out 0).trans rfl; have hcz43_1 : wc.cell? ⟨gb136, 1, none⟩ = some (.string a0_1) := (blk_cell BK136.out 1).trans rfl; have hcz43_2 : wc.cell? ⟨gb136, 2, none⟩ = some (.string a0_2) := (blk_cell BK136.out 2).trans rfl; have hcz43_3 : wc.cell? ⟨gb136, 3, none⟩ = some (.int .i64 a0_3) := (blk_cell BK136.out 3).trans rfl; have hcz43_4 : wc.cell? ⟨gb136, 4, none⟩ = some (.int .i64 a0_4) := (blk_cell BK136.out 4).trans rfl; have hcz43_5 : wc.cell? ⟨gb136, 5, none⟩ = some (.slice A0_5 l0_5.length c0_5) := (blk_cell BK136.out 5).trans rfl; have hfz43_0 := blk_frozen BK136.out 0; have hfz43_1 := blk_frozen BK136.out 1; have hfz43_2 := blk_frozen BK136.out 2; have hfz43_3 := blk_frozen BK136.out 3; have hfz43_4 := blk_frozen BK136.out 4; have hfz43_5 := blk_frozen BK136.out 5; go_wp2; go_ret
          exact ⟨u2_, u9_⟩
        ·replace c35 := Bool.eq_false_iff.mpr c35; subst c35; rw [if_neg (show ¬ (false = true) by decide)] at H; obtain rfl := Option.some.inj H; have hcz44_0 : wc.cell? ⟨gb136, 0, none⟩ = some (.int .i64 a0_0) := (blk_cell BK136.out 0).trans rfl; have hcz44_1 : wc.cell? ⟨gb136, 1, none⟩ = some (.string a0_1) := (blk_cell BK136.out 1).trans rfl; have hcz44_2 : wc.cell? ⟨gb136, 2, none⟩ = some (.string a0_2) := (blk_cell BK136.out 2).trans rfl; have hcz44_3 : wc.cell? ⟨gb136, 3, none⟩ = some (.int .i64 a0_3) := (blk_cell BK136.out 3).trans rfl; have hcz44_4 : wc.cell? ⟨gb136, 4, none⟩ = some (.int .i64 a0_4) := (blk_cell BK136.out 4).trans rfl; have hcz44_5 : wc.cell? ⟨gb136, 5, none⟩ = some (.slice A0_5 l0_5.length c0_5) := (blk_cell BK136.out 5).trans rfl; have hfz44_0 := blk_frozen BK136.out 0; have hfz44_1 := blk_frozen BK136.out 1; have hfz44_2 := blk_frozen BK136.out 2; have hfz44_3 := blk_frozen BK136.out 3; have hfz44_4 := blk_frozen BK136.out 4; have hfz44_5 := blk_frozen BK136.out 5; go_wp2; go_ret
         exact ⟨u2_, u9_⟩
       ·rw [if_neg c34] at H; have c34b0 : (a0_0 == 3) = false := beq_eq_false_iff_ne.mpr c34; have c34b1 : (a0_0 != 3) = true := bne_iff_ne.mpr c34; by_cases c45 : a0_0 = 4
        ·rw [if_pos c45] at H; have c45b0 : (a0_0 == 4) = true := beq_iff_eq.mpr c45; have c45b1 : (a0_0 != 4) = false := bne_eq_false_iff_eq.mpr c45; clear c45; by_cases c46 : x3_1 = true
         ·subst c46; rw [if_pos rfl] at H; by_cases c47 : x4_7 = true
          ·subst c47; rw [if_pos rfl] at H; replace H := Option.bind_eq_some_iff.mp H; obtain ⟨t142, A480, H⟩ := H; replace H : (if t142 = true then ((spec_l5Words.f kj7 a0_2).bind fun t143 => (if t143 = 1 then ((spec_Fold.f kj7 a0_2).bind fun t144 => (some (t144.toList == a0_2.toList))) else (some false))) else (some false)) = some r := H; have A48 := am_ A480; clear A480; by_cases c49 : t142 = true
           ·subst c49; rw [if_pos rfl] at H; replace H := Option.bind_eq_some_iff.mp H; obtain ⟨t143, A500, H⟩ := H; replace H : (if t143 = 1 then ((spec_Fold.f kj7 a0_2).bind fun t144 => (some (t144.toList == a0_2.toList))) else (some false)) = some r := H; have A50 := am_ A500; clear A500; by_cases c51 : t143 = 1
            ·rw [if_pos c51] at H; have c51b0 : (t143 == 1) = true := beq_iff_eq.mpr c51; have c51b1 : (t143 != 1) = false := bne_eq_false_iff_eq.mpr c51; clear c51; replace H := Option.bind_eq_some_iff.mp H; obtain ⟨t144, A520, H⟩ := H; replace H : (some (t144.toList == a0_2.toList)) = some r := H; have A52 := am_ A520; clear A520; obtain rfl := Option.some.inj H; have hcz53_0 : wc.cell? ⟨gb136, 0, none⟩ = some (.int .i64 a0_0) := (blk_cell BK136.out 0).trans rfl; have hcz53_1 : wc.cell? ⟨gb136, 1, none⟩ = some (.string a0_1) := (blk_cell BK136.out 1).trans rfl; have hcz53_2 : wc.cell? ⟨gb136, 2, none⟩ = some (.string a0_2) := (blk_cell BK136.out 2).trans rfl; have hcz53_3 : wc.cell? ⟨gb136, 3, none⟩ = some (.int .i64 a0_3) := (blk_cell BK136.out 3).trans rfl; have hcz53_4 : wc.cell? ⟨gb136, 4, none⟩ = some (.int .i64 a0_4) := (blk_cell BK136.out 4).trans rfl; have hcz53_5 : wc.cell? ⟨gb136, 5, none⟩ = some (.slice A0_5 l0_5.length c0_5) := (blk_cell BK136.out 5).trans rfl; have hfz53_0 := blk_frozen BK136.out 0; have hfz53_1 := blk_frozen BK136.out 1; have hfz53_2 := blk_frozen BK136.out 2; have hfz53_3 := blk_frozen BK136.out 3; have hfz53_4 := blk_frozen BK136.out 4; have hfz53_5 := blk_frozen BK136.out 5; try go_wp2
             replace BK136 := am_ (blk_drew BK136.out); replace HB := am_ (below_drew1 HB.out); refine start_ (n := 25) (S := fun w' => w'.cell? ⟨gb136, 0, none⟩ = some (.int .i64 a0_0) ∧ w'.cell? ⟨gb136, 1, none⟩ = some (.string a0_1) ∧ w'.cell? ⟨gb136, 2, none⟩ = some (.string a0_2) ∧ w'.cell? ⟨gb136, 3, none⟩ = some (.int .i64 a0_3) ∧ w'.cell? ⟨gb136, 4, none⟩ = some (.int .i64 a0_4) ∧ w'.cell? ⟨gb136, 5, none⟩ = some (.slice A0_5 l0_5.length c0_5)) (ds := []) (bm_ 25 0) u8_ rfl rfl ⟨(blk_cell BK136.out 0).trans rfl, (blk_cell BK136.out 1).trans rfl, (blk_cell BK136.out 2).trans rfl, (blk_cell BK136.out 3).trans rfl, (blk_cell BK136.out 4).trans rfl, (blk_cell BK136.out 5).trans rfl⟩ (fun hHeld => ?_); refine with_tabW spec_l5Leaf.tab11 spec_l5Leaf.bits11 (fun HT_ HW_ => ?_); generalize wc.drew = w54 at BK136 HB hHeld ⊢; refine pure_ (i := 0) (N := some 80) (v := ?_) (a' := ?_) (bm_ 25 1) rfl rfl (any_of HT_.out u8_) (fun _ _ _ h => h) (Or.inl ⟨u30_, ?_⟩) ?_ ?_; rotate_left
             ·exact u5_
             rotate_left
             ·exact u0_
             refine pure_ (i := 1) (N := some 81) (v := ?_) (a' := ?_) (bm_ 25 3) rfl rfl (any_of HT_.out u8_) (fun _ _ _ h => h) (Or.inl ⟨u30_, ?_⟩) ?_ ?_; rotate_left
             ·exact u5_
             rotate_left
             ·exact u0_
             refine pure_ (i := 2) (N := some 82) (v := ?_) (a' := ?_) (bm_ 25 7) rfl rfl (any_of HT_.out u8_) (fun _ _ _ h => h) (Or.inl ⟨u30_, ?_⟩) ?_ ?_; rotate_left
             ·exact u5_
             rotate_left
             ·exact u0_
             refine pure_ (i := 3) (N := some 83) (v := ?_) (a' := ?_) (bm_ 25 15) rfl rfl (any_of HT_.out u8_) (fun _ _ _ h => h) (Or.inl ⟨u30_, ?_⟩) ?_ ?_; rotate_left
             ·exact u5_
             rotate_left
             ·exact u0_
             refine pure_ (i := 4) (N := some 84) (v := ?_) (a' := ?_) (bm_ 25 31) rfl rfl (any_of HT_.out u8_) (fun _ _ _ h => h) (Or.inl ⟨u30_, ?_⟩) ?_ ?_; rotate_left
             ·exact u5_
             rotate_left
             ·exact u0_
             refine pure_ (i := 5) (N := some 85) (v := ?_) (a' := ?_) (bm_ 25 63) rfl rfl (any_of HT_.out u8_) (fun _ _ _ h => h) (Or.inl ⟨u30_, ?_⟩) ?_ ?_; rotate_left
             ·exact u5_
             rotate_left
             ·exact u0_
             refine take_ (i := 6) (N := some 86) (v := ?_) (a' := ?_) (bm_ 25 127) rfl rfl (take_ofW HT_.out HW_.out u8_) (fun _ _ _ h => h) (Or.inl ⟨u30_, ?_⟩) hHeld ?_ ?_; rotate_left
             ·exact u17_
             rotate_left
             ·exact u0_
             refine pure_ (i := 7) (N := some 87) (v := ?_) (a' := ?_) (bm_ 25 255) rfl rfl (any_of HT_.out u8_) (fun _ _ _ h => h) (Or.inl ⟨u30_, ?_⟩) ?_ ?_; rotate_left
             ·exact u5_
             rotate_left
             ·exact u0_
             refine one_ (i := 8) (N := some 88) (bm_ 25 511) rfl rfl (one_of HT_.out u8_) u73_ (fun K hK => ?_); refine goes_ Tryd.func15 u8_ rfl #[.int .i64 (a0_2.size : Int), .int .i64 1, .int .i64 12] u30_ rfl rfl u4_ ?_; with_reducible refine (spec_l1In.calls (a0_2.size : Int) 1 12 true _ A48.out).mono ?_
             rintro e w' ⟨rfl, ⟨nd, rfl⟩⟩; refine ⟨_, rfl, ?_⟩; refine hK.out _ _ ⟨(blk_cell BK136.out 0).trans rfl, (blk_cell BK136.out 1).trans rfl, (blk_cell BK136.out 2).trans rfl, (blk_cell BK136.out 3).trans rfl, (blk_cell BK136.out 4).trans rfl, (blk_cell BK136.out 5).trans rfl⟩ (fun hHeld => ?_); clear hK K; refine norm_ (a' := ?_) ?_ ?_; rotate_left
             ·show Act.put _ (some 88) _ = _
              simp only [Act.put, List.setIfInBounds_toArray, List.set_cons_zero, List.set_cons_succ, i64_w, i32_w]; rfl
             refine pure_ (i := 9) (N := some 89) (v := ?_) (a' := ?_) (bm_ 25 1023) rfl rfl (any_of HT_.out u8_) (fun _ _ _ h => h) (Or.inl ⟨u30_, ?_⟩) ?_ ?_; rotate_left
             ·exact u5_
             rotate_left
             ·exact u0_
             refine pure_ (i := 10) (N := some 90) (v := ?_) (a' := ?_) (bm_ 25 2047) rfl rfl (any_of HT_.out u8_) (fun _ _ _ h => h) (Or.inl ⟨u30_, ?_⟩) ?_ ?_; rotate_left
             ·exact u5_
             rotate_left
             ·exact u0_
             refine pure_ (i := 11) (N := some 91) (v := ?_) (a' := ?_) (bm_ 25 4095) rfl rfl (any_of HT_.out u8_) (fun _ _ _ h => h) (Or.inl ⟨u30_, ?_⟩) ?_ ?_; rotate_left
             ·exact u5_
             rotate_left
             ·exact u0_
             refine take_ (i := 12) (N := some 92) (v := ?_) (a' := ?_) (bm_ 25 8191) rfl rfl (take_ofW HT_.out HW_.out u8_) (fun _ _ _ h => h) (Or.inl ⟨u30_, ?_⟩) hHeld ?_ ?_; rotate_left
             ·exact u17_
             rotate_left
             ·exact u0_
             refine one_ (i := 13) (N := some 93) (bm_ 25 16383) rfl rfl (one_of HT_.out u8_) u73_ (fun K hK => ?_); refine goes_ Tryd.func23 u8_ rfl #[.string a0_2] u30_ rfl rfl u4_ ?_; with_reducible refine (spec_l5Words.calls kj7 a0_2 t143 _ A50.out).mono ?_
             rintro e w55 ⟨rfl, hb⟩; refine ⟨_, rfl, ?_⟩; replace BK136 := am_ (blk_below (g := gb136) (o := .cells #[.int .i64 a0_0, .string a0_1, .string a0_2, .int .i64 a0_3, .int .i64 a0_4, .slice A0_5 l0_5.length c0_5] 29 (0, 0)) u31_ hb); replace HB := am_ (below_step u9_ hb); (try clear hb)
             (try clear hb2)
             (try clear hk)
             (try clear hi)
             refine hK.out _ _ ⟨(blk_cell BK136.out 0).trans rfl, (blk_cell BK136.out 1).trans rfl, (blk_cell BK136.out 2).trans rfl, (blk_cell BK136.out 3).trans rfl, (blk_cell BK136.out 4).trans rfl, (blk_cell BK136.out 5).trans rfl⟩ (fun hHeld => ?_); clear hK K; refine norm_ (a' := ?_) ?_ ?_; rotate_left
             ·show Act.put _ (some 93) _ = _
              simp only [Act.put, List.setIfInBounds_toArray, List.set_cons_zero, List.set_cons_succ, i64_w, i32_w]; rfl
             refine pure_ (i := 14) (N := some 94) (v := ?_) (a' := ?_) (bm_ 25 32767) rfl rfl (any_of HT_.out u8_) (fun _ _ _ h => h) (Or.inl ⟨u30_, ?_⟩) ?_ ?_; rotate_left
             ·exact u5_
             rotate_left
             ·exact u0_
             refine pure_ (i := 15) (N := some 95) (v := ?_) (a' := ?_) (bm_ 25 65535) rfl rfl (any_of HT_.out u8_) (fun _ _ _ h => h) (Or.inl ⟨u30_, ?_⟩) ?_ ?_; rotate_left
             ·exact u5_
             rotate_left
             ·exact u0_
             refine pure_ (i := 16) (N := some 96) (v := ?_) (a' := ?_) (bm_ 25 131071) rfl rfl (any_of HT_.out u8_) (fun _ _ _ h => h) (Or.inl ⟨u30_, ?_⟩) ?_ ?_; rotate_left
             ·exact u5_
             rotate_left
             ·exact u0_
             refine pure_ (i := 17) (N := some 97) (v := ?_) (a' := ?_) (bm_ 25 262143) rfl rfl (any_of HT_.out u8_) (fun _ _ _ h => h) (Or.inl ⟨u30_, ?_⟩) ?_ ?_; rotate_left
             ·exact u5_
             rotate_left
             ·exact u0_
             refine pure_ (i := 20) (N := some 100) (v := ?_) (a' := ?_) (bm_ 25 1310719) rfl rfl (any_of HT_.out u8_) (fun _ _ _ h => h) (Or.inl ⟨u30_, ?_⟩) ?_ ?_; rotate_left
             ·exact u5_
             rotate_left
             ·exact u0_
             refine take_ (i := 18) (N := some 98) (v := ?_) (a' := ?_) (bm_ 25 1572863) rfl rfl (take_ofW HT_.out HW_.out u8_) (fun _ _ _ h => h) (Or.inl ⟨u30_, ?_⟩) hHeld ?_ ?_; rotate_left
             ·exact u17_
             rotate_left
             ·exact u0_
             refine take_ (i := 21) (N := some 101) (v := ?_) (a' := ?_) (bm_ 25 3670015) rfl rfl (take_ofW HT_.out HW_.out u8_) (fun _ _ _ h => h) (Or.inl ⟨u30_, ?_⟩) hHeld ?_ ?_; rotate_left
             ·exact u17_
             rotate_left
             ·exact u0_
             refine one_ (i := 19) (N := some 99) (bm_ 25 4194303) rfl rfl (one_of HT_.out u8_) u73_ (fun K hK => ?_); refine goes_ Tryd.func25 u8_ rfl #[.string a0_2] u30_ rfl rfl u4_ ?_; with_reducible refine (spec_Fold.calls kj7 a0_2 t144 _ A52.out).mono ?_
             rintro e w56 ⟨rfl, hb⟩; refine ⟨_, rfl, ?_⟩; replace BK136 := am_ (blk_below (g := gb136) (o := .cells #[.int .i64 a0_0, .string a0_1, .string a0_2, .int .i64 a0_3, .int .i64 a0_4, .slice A0_5 l0_5.length c0_5] 29 (0, 0)) u31_ hb); replace HB := am_ (below_step u9_ hb); (try clear hb)
             (try clear hb2)
             (try clear hk)
             (try clear hi)
             refine hK.out _ _ ⟨(blk_cell BK136.out 0).trans rfl, (blk_cell BK136.out 1).trans rfl, (blk_cell BK136.out 2).trans rfl, (blk_cell BK136.out 3).trans rfl, (blk_cell BK136.out 4).trans rfl, (blk_cell BK136.out 5).trans rfl⟩ (fun hHeld => ?_); clear hK K; refine norm_ (a' := ?_) ?_ ?_; rotate_left
             ·show Act.put _ (some 99) _ = _
              simp only [Act.put, List.setIfInBounds_toArray, List.set_cons_zero, List.set_cons_succ, i64_w, i32_w]; rfl
             refine pure_ (i := 22) (N := some 102) (v := ?_) (a' := ?_) (bm_ 25 8388607) rfl rfl (any_of HT_.out u8_) (fun _ _ _ h => h) (Or.inl ⟨u30_, ?_⟩) ?_ ?_; rotate_left
             ·exact u5_
             rotate_left
             ·exact u0_
             refine pure_ (i := 23) (N := some 103) (v := ?_) (a' := ?_) (bm_ 25 16777215) rfl rfl (any_of HT_.out u8_) (fun _ _ _ h => h) (Or.inl ⟨u30_, ?_⟩) ?_ ?_; rotate_left
             ·exact u5_
             rotate_left
             ·exact u0_
             refine pure_ (i := 24) (N := some 2) (v := ?_) (a' := ?_) (bm_ 25 33554431) rfl rfl (any_of HT_.out u8_) (fun _ _ _ h => h) (Or.inl ⟨u30_, ?_⟩) ?_ ?_; rotate_left
             ·exact u5_
             rotate_left
             ·exact u0_
             refine done_ (done_of HT_.out u8_) ?_; try go_wp2
             go_ret
             exact ⟨u2_, u9_⟩
            ·rw [if_neg c51] at H; have c51b0 : (t143 == 1) = false := beq_eq_false_iff_ne.mpr c51; have c51b1 : (t143 != 1) = true := bne_iff_ne.mpr c51; obtain rfl := Option.some.inj H; have hcz57_0 : wc.cell? ⟨gb136, 0, none⟩ = some (.int .i64 a0_0) := (blk_cell BK136.out 0).trans rfl; have hcz57_1 : wc.cell? ⟨gb136, 1, none⟩ = some (.string a0_1) := (blk_cell BK136.out 1).trans rfl; have hcz57_2 : wc.cell? ⟨gb136, 2, none⟩ = some (.string a0_2) := (blk_cell BK136.out 2).trans rfl; have hcz57_3 : wc.cell? ⟨gb136, 3, none⟩ = some (.int .i64 a0_3) := (blk_cell BK136.out 3).trans rfl; have hcz57_4 : wc.cell? ⟨gb136, 4, none⟩ = some (.int .i64 a0_4) := (blk_cell BK136.out 4).trans rfl; have hcz57_5 : wc.cell? ⟨gb136, 5, none⟩ = some (.slice A0_5 l0_5.length c0_5) := (blk_cell BK136.out 5).trans rfl; have hfz57_0 := blk_frozen BK136.out 0; have hfz57_1 := blk_frozen BK136.out 1; have hfz57_2 := blk_frozen BK136.out 2; have hfz57_3 := blk_frozen BK136.out 3; have hfz57_4 := blk_frozen BK136.out 4; have hfz57_5 := blk_frozen BK136.out 5; try go_wp2
             replace BK136 := am_ (blk_drew BK136.out); replace HB := am_ (below_drew1 HB.out); refine start_ (n := 25) (S := fun w' => w'.cell? ⟨gb136, 0, none⟩ = some (.int .i64 a0_0) ∧ w'.cell? ⟨gb136, 1, none⟩ = some (.string a0_1) ∧ w'.cell? ⟨gb136, 2, none⟩ = some (.string a0_2) ∧ w'.cell? ⟨gb136, 3, none⟩ = some (.int .i64 a0_3) ∧ w'.cell? ⟨gb136, 4, none⟩ = some (.int .i64 a0_4) ∧ w'.cell? ⟨gb136, 5, none⟩ = some (.slice A0_5 l0_5.length c0_5)) (ds := []) (bm_ 25 0) u8_ rfl rfl ⟨(blk_cell BK136.out 0).trans rfl, (blk_cell BK136.out 1).trans rfl, (blk_cell BK136.out 2).trans rfl, (blk_cell BK136.out 3).trans rfl, (blk_cell BK136.out 4).trans rfl, (blk_cell BK136.out 5).trans rfl⟩ (fun hHeld => ?_); refine with_tabW spec_l5Leaf.tab11 spec_l5Leaf.bits11 (fun HT_ HW_ => ?_); generalize wc.drew = w58 at BK136 HB hHeld ⊢; refine pure_ (i := 0) (N := some 80) (v := ?_) (a' := ?_) (bm_ 25 1) rfl rfl (any_of HT_.out u8_) (fun _ _ _ h => h) (Or.inl ⟨u30_, ?_⟩) ?_ ?_; rotate_left
             ·exact u5_
             rotate_left
             ·exact u0_
             refine pure_ (i := 1) (N := some 81) (v := ?_) (a' := ?_) (bm_ 25 3) rfl rfl (any_of HT_.out u8_) (fun _ _ _ h => h) (Or.inl ⟨u30_, ?_⟩) ?_ ?_; rotate_left
             ·exact u5_
             rotate_left
             ·exact u0_
             refine pure_ (i := 2) (N := some 82) (v := ?_) (a' := ?_) (bm_ 25 7) rfl rfl (any_of HT_.out u8_) (fun _ _ _ h => h) (Or.inl ⟨u30_, ?_⟩) ?_ ?_; rotate_left
             ·exact u5_
             rotate_left
             ·exact u0_
             refine pure_ (i := 3) (N := some 83) (v := ?_) (a' := ?_) (bm_ 25 15) rfl rfl (any_of HT_.out u8_) (fun _ _ _ h => h) (Or.inl ⟨u30_, ?_⟩) ?_ ?_; rotate_left
             ·exact u5_
             rotate_left
             ·exact u0_
             refine pure_ (i := 4) (N := some 84) (v := ?_) (a' := ?_) (bm_ 25 31) rfl rfl (any_of HT_.out u8_) (fun _ _ _ h => h) (Or.inl ⟨u30_, ?_⟩) ?_ ?_; rotate_left
             ·exact u5_
             rotate_left
             ·exact u0_
             refine pure_ (i := 5) (N := some 85) (v := ?_) (a' := ?_) (bm_ 25 63) rfl rfl (any_of HT_.out u8_) (fun _ _ _ h => h) (Or.inl ⟨u30_, ?_⟩) ?_ ?_; rotate_left
             ·exact u5_
             rotate_left
             ·exact u0_
             refine take_ (i := 6) (N := some 86) (v := ?_) (a' := ?_) (bm_ 25 127) rfl rfl (take_ofW HT_.out HW_.out u8_) (fun _ _ _ h => h) (Or.inl ⟨u30_, ?_⟩) hHeld ?_ ?_; rotate_left
             ·exact u17_
             rotate_left
             ·exact u0_
             refine pure_ (i := 7) (N := some 87) (v := ?_) (a' := ?_) (bm_ 25 255) rfl rfl (any_of HT_.out u8_) (fun _ _ _ h => h) (Or.inl ⟨u30_, ?_⟩) ?_ ?_; rotate_left
             ·exact u5_
             rotate_left
             ·exact u0_
             refine one_ (i := 8) (N := some 88) (bm_ 25 511) rfl rfl (one_of HT_.out u8_) u73_ (fun K hK => ?_); refine goes_ Tryd.func15 u8_ rfl #[.int .i64 (a0_2.size : Int), .int .i64 1, .int .i64 12] u30_ rfl rfl u4_ ?_; with_reducible refine (spec_l1In.calls (a0_2.size : Int) 1 12 true _ A48.out).mono ?_
             rintro e w' ⟨rfl, ⟨nd, rfl⟩⟩; refine ⟨_, rfl, ?_⟩; refine hK.out _ _ ⟨(blk_cell BK136.out 0).trans rfl, (blk_cell BK136.out 1).trans rfl, (blk_cell BK136.out 2).trans rfl, (blk_cell BK136.out 3).trans rfl, (blk_cell BK136.out 4).trans rfl, (blk_cell BK136.out 5).trans rfl⟩ (fun hHeld => ?_); clear hK K; refine norm_ (a' := ?_) ?_ ?_; rotate_left
             ·show Act.put _ (some 88) _ = _
              simp only [Act.put, List.setIfInBounds_toArray, List.set_cons_zero, List.set_cons_succ, i64_w, i32_w]; rfl
             refine pure_ (i := 9) (N := some 89) (v := ?_) (a' := ?_) (bm_ 25 1023) rfl rfl (any_of HT_.out u8_) (fun _ _ _ h => h) (Or.inl ⟨u30_, ?_⟩) ?_ ?_; rotate_left
             ·exact u5_
             rotate_left
             ·exact u0_
             refine pure_ (i := 10) (N := some 90) (v := ?_) (a' := ?_) (bm_ 25 2047) rfl rfl (any_of HT_.out u8_) (fun _ _ _ h => h) (Or.inl ⟨u30_, ?_⟩) ?_ ?_; rotate_left
             ·exact u5_
             rotate_left
             ·exact u0_
             refine pure_ (i := 11) (N := some 91) (v := ?_) (a' := ?_) (bm_ 25 4095) rfl rfl (any_of HT_.out u8_) (fun _ _ _ h => h) (Or.inl ⟨u30_, ?_⟩) ?_ ?_; rotate_left
             ·exact u5_
             rotate_left
             ·exact u0_
             refine take_ (i := 12) (N := some 92) (v := ?_) (a' := ?_) (bm_ 25 8191) rfl rfl (take_ofW HT_.out HW_.out u8_) (fun _ _ _ h => h) (Or.inl ⟨u30_, ?_⟩) hHeld ?_ ?_; rotate_left
             ·exact u17_
             rotate_left
             ·exact u0_
             refine one_ (i := 13) (N := some 93) (bm_ 25 16383) rfl rfl (one_of HT_.out u8_) u73_ (fun K hK => ?_); refine goes_ Tryd.func23 u8_ rfl #[.string a0_2] u30_ rfl rfl u4_ ?_; with_reducible refine (spec_l5Words.calls kj7 a0_2 t143 _ A50.out).mono ?_
             rintro e w59 ⟨rfl, hb⟩; refine ⟨_, rfl, ?_⟩; replace BK136 := am_ (blk_below (g := gb136) (o := .cells #[.int .i64 a0_0, .string a0_1, .string a0_2, .int .i64 a0_3, .int .i64 a0_4, .slice A0_5 l0_5.length c0_5] 29 (0, 0)) u31_ hb); replace HB := am_ (below_step u9_ hb); (try clear hb)
             (try clear hb2)
             (try clear hk)
             (try clear hi)
             refine hK.out _ _ ⟨(blk_cell BK136.out 0).trans rfl, (blk_cell BK136.out 1).trans rfl, (blk_cell BK136.out 2).trans rfl, (blk_cell BK136.out 3).trans rfl, (blk_cell BK136.out 4).trans rfl, (blk_cell BK136.out 5).trans rfl⟩ (fun hHeld => ?_); clear hK K; refine norm_ (a' := ?_) ?_ ?_; rotate_left
             ·show Act.put _ (some 93) _ = _
              simp only [Act.put, List.setIfInBounds_toArray, List.set_cons_zero, List.set_cons_succ, i64_w, i32_w]; rfl
             refine pure_ (i := 14) (N := some 94) (v := ?_) (a' := ?_) (bm_ 25 32767) rfl rfl (any_of HT_.out u8_) (fun _ _ _ h => h) (Or.inl ⟨u30_, ?_⟩) ?_ ?_; rotate_left
             ·exact u5_
             rotate_left
             ·exact u0_
             refine pure_ (i := 15) (N := some 95) (v := ?_) (a' := ?_) (bm_ 25 65535) rfl rfl (any_of HT_.out u8_) (fun _ _ _ h => h) (Or.inl ⟨u30_, ?_⟩) ?_ ?_; rotate_left
             ·exact u5_
             rotate_left
             ·exact u0_
             refine pure_ (i := 16) (N := some 96) (v := ?_) (a' := ?_) (bm_ 25 131071) rfl rfl (any_of HT_.out u8_) (fun _ _ _ h => h) (Or.inl ⟨u30_, ?_⟩) ?_ ?_; rotate_left
             ·exact u5_
             rotate_left
             ·exact u0_
             refine pure_ (i := 17) (N := some 97) (v := undef) (a' := ?_) (bm_ 25 262143) rfl rfl (any_of HT_.out u8_) (fun _ _ _ h => h) (Or.inr ⟨u30_, rfl⟩) ?_ ?_; rotate_left
             ·exact u0_
             refine pure_ (i := 18) (N := some 98) (v := undef) (a' := ?_) (bm_ 25 524287) rfl rfl (any_of HT_.out u8_) (fun _ _ _ h => h) (Or.inr ⟨u30_, rfl⟩) ?_ ?_; rotate_left
             ·exact u0_
             refine pure_ (i := 19) (N := some 99) (v := undef) (a' := ?_) (bm_ 25 1048575) rfl rfl (any_of HT_.out u8_) (fun _ _ _ h => h) (Or.inr ⟨u30_, rfl⟩) ?_ ?_; rotate_left
             ·exact u0_
             refine pure_ (i := 20) (N := some 100) (v := undef) (a' := ?_) (bm_ 25 2097151) rfl rfl (any_of HT_.out u8_) (fun _ _ _ h => h) (Or.inr ⟨u30_, rfl⟩) ?_ ?_; rotate_left
             ·exact u0_
             refine pure_ (i := 21) (N := some 101) (v := undef) (a' := ?_) (bm_ 25 4194303) rfl rfl (any_of HT_.out u8_) (fun _ _ _ h => h) (Or.inr ⟨u30_, rfl⟩) ?_ ?_; rotate_left
             ·exact u0_
             refine pure_ (i := 22) (N := some 102) (v := undef) (a' := ?_) (bm_ 25 8388607) rfl rfl (any_of HT_.out u8_) (fun _ _ _ h => h) (Or.inr ⟨u30_, rfl⟩) ?_ ?_; rotate_left
             ·exact u0_
             refine pure_ (i := 23) (N := some 103) (v := ?_) (a' := ?_) (bm_ 25 16777215) rfl rfl (any_of HT_.out u8_) (fun _ _ _ h => h) (Or.inl ⟨u30_, ?_⟩) ?_ ?_; rotate_left
             ·exact u5_
             rotate_left
             ·exact u0_
             refine pure_ (i := 24) (N := some 2) (v := ?_) (a' := ?_) (bm_ 25 33554431) rfl rfl (any_of HT_.out u8_) (fun _ _ _ h => h) (Or.inl ⟨u30_, ?_⟩) ?_ ?_; rotate_left
             ·exact u5_
             rotate_left
             ·exact u0_
             refine done_ (done_of HT_.out u8_) ?_; try go_wp2
             go_ret
             exact ⟨u2_, u9_⟩
           ·replace c49 := Bool.eq_false_iff.mpr c49; subst c49; rw [if_neg (show ¬ (false = true) by decide)] at H; obtain rfl := Option.some.inj H; have hcz60_0 : wc.cell? ⟨gb136, 0, none⟩ = some (.int .i64 a0_0) := (blk_cell BK136.out 0).trans rfl; have hcz60_1 : wc.cell? ⟨gb136, 1, none⟩ = some (.string a0_1) := (blk_cell BK136.out 1).trans rfl; have hcz60_2 : wc.cell? ⟨gb136, 2, none⟩ = some (.string a0_2) := (blk_cell BK136.out 2).trans rfl; have hcz60_3 : wc.cell? ⟨gb136, 3, none⟩ = some (.int .i64 a0_3) := (blk_cell BK136.out 3).trans rfl; have hcz60_4 : wc.cell? ⟨gb136, 4, none⟩ = some (.int .i64 a0_4) := (blk_cell BK136.out 4).trans rfl; have hcz60_5 : wc.cell? ⟨gb136, 5, none⟩ = some (.slice A0_5 l0_5.length c0_5) := (blk_cell BK136.out 5).trans rfl; have hfz60_0 := blk_frozen BK136.out 0; have hfz60_1 := blk_frozen BK136.out 1; have hfz60_2 := blk_frozen BK136.out 2; have hfz60_3 := blk_frozen BK136.out 3; have hfz60_4 := blk_frozen BK136.out 4; have hfz60_5 := blk_frozen BK136.out 5; try go_wp2
            replace BK136 := am_ (blk_drew BK136.out); replace HB := am_ (below_drew1 HB.out); refine start_ (n := 25) (S := fun w' => w'.cell? ⟨gb136, 0, none⟩ = some (.int .i64 a0_0) ∧ w'.cell? ⟨gb136, 1, none⟩ = some (.string a0_1) ∧ w'.cell? ⟨gb136, 2, none⟩ = some (.string a0_2) ∧ w'.cell? ⟨gb136, 3, none⟩ = some (.int .i64 a0_3) ∧ w'.cell? ⟨gb136, 4, none⟩ = some (.int .i64 a0_4) ∧ w'.cell? ⟨gb136, 5, none⟩ = some (.slice A0_5 l0_5.length c0_5)) (ds := []) (bm_ 25 0) u8_ rfl rfl ⟨(blk_cell BK136.out 0).trans rfl, (blk_cell BK136.out 1).trans rfl, (blk_cell BK136.out 2).trans rfl, (blk_cell BK136.out 3).trans rfl, (blk_cell BK136.out 4).trans rfl, (blk_cell BK136.out 5).trans rfl⟩ (fun hHeld => ?_); refine with_tabW spec_l5Leaf.tab11 spec_l5Leaf.bits11 (fun HT_ HW_ => ?_); generalize wc.drew = w61 at BK136 HB hHeld ⊢; refine pure_ (i := 0) (N := some 80) (v := ?_) (a' := ?_) (bm_ 25 1) rfl rfl (any_of HT_.out u8_) (fun _ _ _ h => h) (Or.inl ⟨u30_, ?_⟩) ?_ ?_; rotate_left
            ·exact u5_
            rotate_left
            ·exact u0_
            refine pure_ (i := 1) (N := some 81) (v := ?_) (a' := ?_) (bm_ 25 3) rfl rfl (any_of HT_.out u8_) (fun _ _ _ h => h) (Or.inl ⟨u30_, ?_⟩) ?_ ?_; rotate_left
            ·exact u5_
            rotate_left
            ·exact u0_
            refine pure_ (i := 2) (N := some 82) (v := ?_) (a' := ?_) (bm_ 25 7) rfl rfl (any_of HT_.out u8_) (fun _ _ _ h => h) (Or.inl ⟨u30_, ?_⟩) ?_ ?_; rotate_left
            ·exact u5_
            rotate_left
            ·exact u0_
            refine pure_ (i := 3) (N := some 83) (v := ?_) (a' := ?_) (bm_ 25 15) rfl rfl (any_of HT_.out u8_) (fun _ _ _ h => h) (Or.inl ⟨u30_, ?_⟩) ?_ ?_; rotate_left
            ·exact u5_
            rotate_left
            ·exact u0_
            refine pure_ (i := 4) (N := some 84) (v := ?_) (a' := ?_) (bm_ 25 31) rfl rfl (any_of HT_.out u8_) (fun _ _ _ h => h) (Or.inl ⟨u30_, ?_⟩) ?_ ?_; rotate_left
            ·exact u5_
            rotate_left
            ·exact u0_
            refine pure_ (i := 5) (N := some 85) (v := ?_) (a' := ?_) (bm_ 25 63) rfl rfl (any_of HT_.out u8_) (fun _ _ _ h => h) (Or.inl ⟨u30_, ?_⟩) ?_ ?_; rotate_left
            ·exact u5_
            rotate_left
            ·exact u0_
            refine take_ (i := 6) (N := some 86) (v := ?_) (a' := ?_) (bm_ 25 127) rfl rfl (take_ofW HT_.out HW_.out u8_) (fun _ _ _ h => h) (Or.inl ⟨u30_, ?_⟩) hHeld ?_ ?_; rotate_left
            ·exact u17_
            rotate_left
            ·exact u0_
            refine pure_ (i := 7) (N := some 87) (v := ?_) (a' := ?_) (bm_ 25 255) rfl rfl (any_of HT_.out u8_) (fun _ _ _ h => h) (Or.inl ⟨u30_, ?_⟩) ?_ ?_; rotate_left
            ·exact u5_
            rotate_left
            ·exact u0_
            refine one_ (i := 8) (N := some 88) (bm_ 25 511) rfl rfl (one_of HT_.out u8_) u73_ (fun K hK => ?_); refine goes_ Tryd.func15 u8_ rfl #[.int .i64 (a0_2.size : Int), .int .i64 1, .int .i64 12] u30_ rfl rfl u4_ ?_; with_reducible refine (spec_l1In.calls (a0_2.size : Int) 1 12 false _ A48.out).mono ?_
            rintro e w' ⟨rfl, ⟨nd, rfl⟩⟩; refine ⟨_, rfl, ?_⟩; refine hK.out _ _ ⟨(blk_cell BK136.out 0).trans rfl, (blk_cell BK136.out 1).trans rfl, (blk_cell BK136.out 2).trans rfl, (blk_cell BK136.out 3).trans rfl, (blk_cell BK136.out 4).trans rfl, (blk_cell BK136.out 5).trans rfl⟩ (fun hHeld => ?_); clear hK K; refine norm_ (a' := ?_) ?_ ?_; rotate_left
            ·show Act.put _ (some 88) _ = _
             simp only [Act.put, List.setIfInBounds_toArray, List.set_cons_zero, List.set_cons_succ, i64_w, i32_w]; rfl
            refine pure_ (i := 9) (N := some 89) (v := ?_) (a' := ?_) (bm_ 25 1023) rfl rfl (any_of HT_.out u8_) (fun _ _ _ h => h) (Or.inl ⟨u30_, ?_⟩) ?_ ?_; rotate_left
            ·exact u5_
            rotate_left
            ·exact u0_
            refine pure_ (i := 10) (N := some 90) (v := ?_) (a' := ?_) (bm_ 25 2047) rfl rfl (any_of HT_.out u8_) (fun _ _ _ h => h) (Or.inl ⟨u30_, ?_⟩) ?_ ?_; rotate_left
            ·exact u5_
            rotate_left
            ·exact u0_
            refine pure_ (i := 11) (N := some 91) (v := undef) (a' := ?_) (bm_ 25 4095) rfl rfl (any_of HT_.out u8_) (fun _ _ _ h => h) (Or.inr ⟨u30_, rfl⟩) ?_ ?_; rotate_left
            ·exact u0_
            refine pure_ (i := 12) (N := some 92) (v := undef) (a' := ?_) (bm_ 25 8191) rfl rfl (any_of HT_.out u8_) (fun _ _ _ h => h) (Or.inr ⟨u30_, rfl⟩) ?_ ?_; rotate_left
            ·exact u0_
            refine pure_ (i := 13) (N := some 93) (v := undef) (a' := ?_) (bm_ 25 16383) rfl rfl (any_of HT_.out u8_) (fun _ _ _ h => h) (Or.inr ⟨u30_, rfl⟩) ?_ ?_; rotate_left
            ·exact u0_
            refine pure_ (i := 14) (N := some 94) (v := undef) (a' := ?_) (bm_ 25 32767) rfl rfl (any_of HT_.out u8_) (fun _ _ _ h => h) (Or.inr ⟨u30_, rfl⟩) ?_ ?_; rotate_left
            ·exact u0_
            refine pure_ (i := 15) (N := some 95) (v := ?_) (a' := ?_) (bm_ 25 65535) rfl rfl (any_of HT_.out u8_) (fun _ _ _ h => h) (Or.inl ⟨u30_, ?_⟩) ?_ ?_; rotate_left
            ·exact u5_
            rotate_left
            ·exact u0_
            refine pure_ (i := 16) (N := some 96) (v := ?_) (a' := ?_) (bm_ 25 131071) rfl rfl (any_of HT_.out u8_) (fun _ _ _ h => h) (Or.inl ⟨u30_, ?_⟩) ?_ ?_; rotate_left
            ·exact u5_
            rotate_left
            ·exact u0_
            refine pure_ (i := 17) (N := some 97) (v := undef) (a' := ?_) (bm_ 25 262143) rfl rfl (any_of HT_.out u8_) (fun _ _ _ h => h) (Or.inr ⟨u30_, rfl⟩) ?_ ?_; rotate_left
            ·exact u0_
            refine pure_ (i := 18) (N := some 98) (v := undef) (a' := ?_) (bm_ 25 524287) rfl rfl (any_of HT_.out u8_) (fun _ _ _ h => h) (Or.inr ⟨u30_, rfl⟩) ?_ ?_; rotate_left
            ·exact u0_
            refine pure_ (i := 19) (N := some 99) (v := undef) (a' := ?_) (bm_ 25 1048575) rfl rfl (any_of HT_.out u8_) (fun _ _ _ h => h) (Or.inr ⟨u30_, rfl⟩) ?_ ?_; rotate_left
            ·exact u0_
            refine pure_ (i := 20) (N := some 100) (v := undef) (a' := ?_) (bm_ 25 2097151) rfl rfl (any_of HT_.out u8_) (fun _ _ _ h => h) (Or.inr ⟨u30_, rfl⟩) ?_ ?_; rotate_left
            ·exact u0_
            refine pure_ (i := 21) (N := some 101) (v := undef) (a' := ?_) (bm_ 25 4194303) rfl rfl (any_of HT_.out u8_) (fun _ _ _ h => h) (Or.inr ⟨u30_, rfl⟩) ?_ ?_; rotate_left
            ·exact u0_
            refine pure_ (i := 22) (N := some 102) (v := undef) (a' := ?_) (bm_ 25 8388607) rfl rfl (any_of HT_.out u8_) (fun _ _ _ h => h) (Or.inr ⟨u30_, rfl⟩) ?_ ?_; rotate_left
            ·exact u0_
            refine pure_ (i := 23) (N := some 103) (v := ?_) (a' := ?_) (bm_ 25 16777215) rfl rfl (any_of HT_.out u8_) (fun _ _ _ h => h) (Or.inl ⟨u30_, ?_⟩) ?_ ?_; rotate_left
            ·exact u5_
            rotate_left
            ·exact u0_
            refine pure_ (i := 24) (N := some 2) (v := ?_) (a' := ?_) (bm_ 25 33554431) rfl rfl (any_of HT_.out u8_) (fun _ _ _ h => h) (Or.inl ⟨u30_, ?_⟩) ?_ ?_; rotate_left
            ·exact u5_
            rotate_left
            ·exact u0_
            refine done_ (done_of HT_.out u8_) ?_; try go_wp2
            go_ret
            exact ⟨u2_, u9_⟩
          ·replace c47 := Bool.eq_false_iff.mpr c47; subst c47; rw [if_neg (show ¬ (false = true) by decide)] at H; obtain rfl := Option.some.inj H; have hcz62_0 : wc.cell? ⟨gb136, 0, none⟩ = some (.int .i64 a0_0) := (blk_cell BK136.out 0).trans rfl; have hcz62_1 : wc.cell? ⟨gb136, 1, none⟩ = some (.string a0_1) := (blk_cell BK136.out 1).trans rfl; have hcz62_2 : wc.cell? ⟨gb136, 2, none⟩ = some (.string a0_2) := (blk_cell BK136.out 2).trans rfl; have hcz62_3 : wc.cell? ⟨gb136, 3, none⟩ = some (.int .i64 a0_3) := (blk_cell BK136.out 3).trans rfl; have hcz62_4 : wc.cell? ⟨gb136, 4, none⟩ = some (.int .i64 a0_4) := (blk_cell BK136.out 4).trans rfl; have hcz62_5 : wc.cell? ⟨gb136, 5, none⟩ = some (.slice A0_5 l0_5.length c0_5) := (blk_cell BK136.out 5).trans rfl; have hfz62_0 := blk_frozen BK136.out 0; have hfz62_1 := blk_frozen BK136.out 1; have hfz62_2 := blk_frozen BK136.out 2; have hfz62_3 := blk_frozen BK136.out 3; have hfz62_4 := blk_frozen BK136.out 4; have hfz62_5 := blk_frozen BK136.out 5; try go_wp2
           replace BK136 := am_ (blk_drew BK136.out); replace HB := am_ (below_drew1 HB.out); refine start_ (n := 25) (S := fun w' => True) (ds := []) (bm_ 25 0) u8_ rfl rfl trivial (fun hHeld => ?_); refine with_tabW spec_l5Leaf.tab11 spec_l5Leaf.bits11 (fun HT_ HW_ => ?_); generalize wc.drew = w63 at BK136 HB hHeld ⊢; refine pure_ (i := 0) (N := some 80) (v := ?_) (a' := ?_) (bm_ 25 1) rfl rfl (any_of HT_.out u8_) (fun _ _ _ h => h) (Or.inl ⟨u30_, ?_⟩) ?_ ?_; rotate_left
           ·exact u5_
           rotate_left
           ·exact u0_
           refine pure_ (i := 1) (N := some 81) (v := ?_) (a' := ?_) (bm_ 25 3) rfl rfl (any_of HT_.out u8_) (fun _ _ _ h => h) (Or.inl ⟨u30_, ?_⟩) ?_ ?_; rotate_left
           ·exact u5_
           rotate_left
           ·exact u0_
           refine pure_ (i := 2) (N := some 82) (v := ?_) (a' := ?_) (bm_ 25 7) rfl rfl (any_of HT_.out u8_) (fun _ _ _ h => h) (Or.inl ⟨u30_, ?_⟩) ?_ ?_; rotate_left
           ·exact u5_
           rotate_left
           ·exact u0_
           refine pure_ (i := 3) (N := some 83) (v := ?_) (a' := ?_) (bm_ 25 15) rfl rfl (any_of HT_.out u8_) (fun _ _ _ h => h) (Or.inl ⟨u30_, ?_⟩) ?_ ?_; rotate_left
           ·exact u5_
           rotate_left
           ·exact u0_
           refine pure_ (i := 4) (N := some 84) (v := ?_) (a' := ?_) (bm_ 25 31) rfl rfl (any_of HT_.out u8_) (fun _ _ _ h => h) (Or.inl ⟨u30_, ?_⟩) ?_ ?_; rotate_left
           ·exact u5_
           rotate_left
           ·exact u0_
           refine pure_ (i := 5) (N := some 85) (v := undef) (a' := ?_) (bm_ 25 63) rfl rfl (any_of HT_.out u8_) (fun _ _ _ h => h) (Or.inr ⟨u30_, rfl⟩) ?_ ?_; rotate_left
           ·exact u0_
           refine pure_ (i := 6) (N := some 86) (v := undef) (a' := ?_) (bm_ 25 127) rfl rfl (any_of HT_.out u8_) (fun _ _ _ h => h) (Or.inr ⟨u30_, rfl⟩) ?_ ?_; rotate_left
           ·exact u0_
           refine pure_ (i := 7) (N := some 87) (v := undef) (a' := ?_) (bm_ 25 255) rfl rfl (any_of HT_.out u8_) (fun _ _ _ h => h) (Or.inr ⟨u30_, rfl⟩) ?_ ?_; rotate_left
           ·exact u0_
           refine pure_ (i := 8) (N := some 88) (v := undef) (a' := ?_) (bm_ 25 511) rfl rfl (any_of HT_.out u8_) (fun _ _ _ h => h) (Or.inr ⟨u30_, rfl⟩) ?_ ?_; rotate_left
           ·exact u0_
           refine pure_ (i := 9) (N := some 89) (v := ?_) (a' := ?_) (bm_ 25 1023) rfl rfl (any_of HT_.out u8_) (fun _ _ _ h => h) (Or.inl ⟨u30_, ?_⟩) ?_ ?_; rotate_left
           ·exact u5_
           rotate_left
           ·exact u0_
           refine pure_ (i := 10) (N := some 90) (v := ?_) (a' := ?_) (bm_ 25 2047) rfl rfl (any_of HT_.out u8_) (fun _ _ _ h => h) (Or.inl ⟨u30_, ?_⟩) ?_ ?_; rotate_left
           ·exact u5_
           rotate_left
           ·exact u0_
           refine pure_ (i := 11) (N := some 91) (v := undef) (a' := ?_) (bm_ 25 4095) rfl rfl (any_of HT_.out u8_) (fun _ _ _ h => h) (Or.inr ⟨u30_, rfl⟩) ?_ ?_; rotate_left
           ·exact u0_
           refine pure_ (i := 12) (N := some 92) (v := undef) (a' := ?_) (bm_ 25 8191) rfl rfl (any_of HT_.out u8_) (fun _ _ _ h => h) (Or.inr ⟨u30_, rfl⟩) ?_ ?_; rotate_left
           ·exact u0_
           refine pure_ (i := 13) (N := some 93) (v := undef) (a' := ?_) (bm_ 25 16383) rfl rfl (any_of HT_.out u8_) (fun _ _ _ h => h) (Or.inr ⟨u30_, rfl⟩) ?_ ?_; rotate_left
           ·exact u0_
           refine pure_ (i := 14) (N := some 94) (v := undef) (a' := ?_) (bm_ 25 32767) rfl rfl (any_of HT_.out u8_) (fun _ _ _ h => h) (Or.inr ⟨u30_, rfl⟩) ?_ ?_; rotate_left
           ·exact u0_
           refine pure_ (i := 15) (N := some 95) (v := ?_) (a' := ?_) (bm_ 25 65535) rfl rfl (any_of HT_.out u8_) (fun _ _ _ h => h) (Or.inl ⟨u30_, ?_⟩) ?_ ?_; rotate_left
           ·exact u5_
           rotate_left
           ·exact u0_
           refine pure_ (i := 16) (N := some 96) (v := ?_) (a' := ?_) (bm_ 25 131071) rfl rfl (any_of HT_.out u8_) (fun _ _ _ h => h) (Or.inl ⟨u30_, ?_⟩) ?_ ?_; rotate_left
           ·exact u5_
           rotate_left
           ·exact u0_
           refine pure_ (i := 17) (N := some 97) (v := undef) (a' := ?_) (bm_ 25 262143) rfl rfl (any_of HT_.out u8_) (fun _ _ _ h => h) (Or.inr ⟨u30_, rfl⟩) ?_ ?_; rotate_left
           ·exact u0_
           refine pure_ (i := 18) (N := some 98) (v := undef) (a' := ?_) (bm_ 25 524287) rfl rfl (any_of HT_.out u8_) (fun _ _ _ h => h) (Or.inr ⟨u30_, rfl⟩) ?_ ?_; rotate_left
           ·exact u0_
           refine pure_ (i := 19) (N := some 99) (v := undef) (a' := ?_) (bm_ 25 1048575) rfl rfl (any_of HT_.out u8_) (fun _ _ _ h => h) (Or.inr ⟨u30_, rfl⟩) ?_ ?_; rotate_left
           ·exact u0_
           refine pure_ (i := 20) (N := some 100) (v := undef) (a' := ?_) (bm_ 25 2097151) rfl rfl (any_of HT_.out u8_) (fun _ _ _ h => h) (Or.inr ⟨u30_, rfl⟩) ?_ ?_; rotate_left
           ·exact u0_
           refine pure_ (i := 21) (N := some 101) (v := undef) (a' := ?_) (bm_ 25 4194303) rfl rfl (any_of HT_.out u8_) (fun _ _ _ h => h) (Or.inr ⟨u30_, rfl⟩) ?_ ?_; rotate_left
           ·exact u0_
           refine pure_ (i := 22) (N := some 102) (v := undef) (a' := ?_) (bm_ 25 8388607) rfl rfl (any_of HT_.out u8_) (fun _ _ _ h => h) (Or.inr ⟨u30_, rfl⟩) ?_ ?_; rotate_left
           ·exact u0_
           refine pure_ (i := 23) (N := some 103) (v := ?_) (a' := ?_) (bm_ 25 16777215) rfl rfl (any_of HT_.out u8_) (fun _ _ _ h => h) (Or.inl ⟨u30_, ?_⟩) ?_ ?_; rotate_left
           ·exact u5_
           rotate_left
           ·exact u0_
           refine pure_ (i := 24) (N := some 2) (v := ?_) (a' := ?_) (bm_ 25 33554431) rfl rfl (any_of HT_.out u8_) (fun _ _ _ h => h) (Or.inl ⟨u30_, ?_⟩) ?_ ?_; rotate_left
           ·exact u5_
           rotate_left
           ·exact u0_
           refine done_ (done_of HT_.out u8_) ?_; try go_wp2
           go_ret
           exact ⟨u2_, u9_⟩
         ·replace c46 := Bool.eq_false_iff.mpr c46; subst c46; rw [if_neg (show ¬ (false = true) by decide)] at H; obtain rfl := Option.some.inj H; have hcz64_0 : wc.cell? ⟨gb136, 0, none⟩ = some (.int .i64 a0_0) := (blk_cell BK136.out 0).trans rfl; have hcz64_1 : wc.cell? ⟨gb136, 1, none⟩ = some (.string a0_1) := (blk_cell BK136.out 1).trans rfl; have hcz64_2 : wc.cell? ⟨gb136, 2, none⟩ = some (.string a0_2) := (blk_cell BK136.out 2).trans rfl; have hcz64_3 : wc.cell? ⟨gb136, 3, none⟩ = some (.int .i64 a0_3) := (blk_cell BK136.out 3).trans rfl; have hcz64_4 : wc.cell? ⟨gb136, 4, none⟩ = some (.int .i64 a0_4) := (blk_cell BK136.out 4).trans rfl; have hcz64_5 : wc.cell? ⟨gb136, 5, none⟩ = some (.slice A0_5 l0_5.length c0_5) := (blk_cell BK136.out 5).trans rfl; have hfz64_0 := blk_frozen BK136.out 0; have hfz64_1 := blk_frozen BK136.out 1; have hfz64_2 := blk_frozen BK136.out 2; have hfz64_3 := blk_frozen BK136.out 3; have hfz64_4 := blk_frozen BK136.out 4; have hfz64_5 := blk_frozen BK136.out 5; try go_wp2
          replace BK136 := am_ (blk_drew BK136.out); replace HB := am_ (below_drew1 HB.out); refine start_ (n := 25) (S := fun w' => True) (ds := []) (bm_ 25 0) u8_ rfl rfl trivial (fun hHeld => ?_); refine with_tabW spec_l5Leaf.tab11 spec_l5Leaf.bits11 (fun HT_ HW_ => ?_); generalize wc.drew = w65 at BK136 HB hHeld ⊢; refine pure_ (i := 0) (N := some 80) (v := ?_) (a' := ?_) (bm_ 25 1) rfl rfl (any_of HT_.out u8_) (fun _ _ _ h => h) (Or.inl ⟨u30_, ?_⟩) ?_ ?_; rotate_left
          ·exact u5_
          rotate_left
          ·exact u0_
          refine pure_ (i := 1) (N := some 81) (v := ?_) (a' := ?_) (bm_ 25 3) rfl rfl (any_of HT_.out u8_) (fun _ _ _ h => h) (Or.inl ⟨u30_, ?_⟩) ?_ ?_; rotate_left
          ·exact u5_
          rotate_left
          ·exact u0_
          refine pure_ (i := 2) (N := some 82) (v := undef) (a' := ?_) (bm_ 25 7) rfl rfl (any_of HT_.out u8_) (fun _ _ _ h => h) (Or.inr ⟨u30_, rfl⟩) ?_ ?_; rotate_left
          ·exact u0_
          refine pure_ (i := 3) (N := some 83) (v := ?_) (a' := ?_) (bm_ 25 15) rfl rfl (any_of HT_.out u8_) (fun _ _ _ h => h) (Or.inl ⟨u30_, ?_⟩) ?_ ?_; rotate_left
          ·exact u5_
          rotate_left
          ·exact u0_
          refine pure_ (i := 4) (N := some 84) (v := ?_) (a' := ?_) (bm_ 25 31) rfl rfl (any_of HT_.out u8_) (fun _ _ _ h => h) (Or.inl ⟨u30_, ?_⟩) ?_ ?_; rotate_left
          ·exact u5_
          rotate_left
          ·exact u0_
          refine pure_ (i := 5) (N := some 85) (v := undef) (a' := ?_) (bm_ 25 63) rfl rfl (any_of HT_.out u8_) (fun _ _ _ h => h) (Or.inr ⟨u30_, rfl⟩) ?_ ?_; rotate_left
          ·exact u0_
          refine pure_ (i := 6) (N := some 86) (v := undef) (a' := ?_) (bm_ 25 127) rfl rfl (any_of HT_.out u8_) (fun _ _ _ h => h) (Or.inr ⟨u30_, rfl⟩) ?_ ?_; rotate_left
          ·exact u0_
          refine pure_ (i := 7) (N := some 87) (v := undef) (a' := ?_) (bm_ 25 255) rfl rfl (any_of HT_.out u8_) (fun _ _ _ h => h) (Or.inr ⟨u30_, rfl⟩) ?_ ?_; rotate_left
          ·exact u0_
          refine pure_ (i := 8) (N := some 88) (v := undef) (a' := ?_) (bm_ 25 511) rfl rfl (any_of HT_.out u8_) (fun _ _ _ h => h) (Or.inr ⟨u30_, rfl⟩) ?_ ?_; rotate_left
          ·exact u0_
          refine pure_ (i := 9) (N := some 89) (v := ?_) (a' := ?_) (bm_ 25 1023) rfl rfl (any_of HT_.out u8_) (fun _ _ _ h => h) (Or.inl ⟨u30_, ?_⟩) ?_ ?_; rotate_left
          ·exact u5_
          rotate_left
          ·exact u0_
          refine pure_ (i := 10) (N := some 90) (v := ?_) (a' := ?_) (bm_ 25 2047) rfl rfl (any_of HT_.out u8_) (fun _ _ _ h => h) (Or.inl ⟨u30_, ?_⟩) ?_ ?_; rotate_left
          ·exact u5_
          rotate_left
          ·exact u0_
          refine pure_ (i := 11) (N := some 91) (v := undef) (a' := ?_) (bm_ 25 4095) rfl rfl (any_of HT_.out u8_) (fun _ _ _ h => h) (Or.inr ⟨u30_, rfl⟩) ?_ ?_; rotate_left
          ·exact u0_
          refine pure_ (i := 12) (N := some 92) (v := undef) (a' := ?_) (bm_ 25 8191) rfl rfl (any_of HT_.out u8_) (fun _ _ _ h => h) (Or.inr ⟨u30_, rfl⟩) ?_ ?_; rotate_left
          ·exact u0_
          refine pure_ (i := 13) (N := some 93) (v := undef) (a' := ?_) (bm_ 25 16383) rfl rfl (any_of HT_.out u8_) (fun _ _ _ h => h) (Or.inr ⟨u30_, rfl⟩) ?_ ?_; rotate_left
          ·exact u0_
          refine pure_ (i := 14) (N := some 94) (v := undef) (a' := ?_) (bm_ 25 32767) rfl rfl (any_of HT_.out u8_) (fun _ _ _ h => h) (Or.inr ⟨u30_, rfl⟩) ?_ ?_; rotate_left
          ·exact u0_
          refine pure_ (i := 15) (N := some 95) (v := ?_) (a' := ?_) (bm_ 25 65535) rfl rfl (any_of HT_.out u8_) (fun _ _ _ h => h) (Or.inl ⟨u30_, ?_⟩) ?_ ?_; rotate_left
          ·exact u5_
          rotate_left
          ·exact u0_
          refine pure_ (i := 16) (N := some 96) (v := ?_) (a' := ?_) (bm_ 25 131071) rfl rfl (any_of HT_.out u8_) (fun _ _ _ h => h) (Or.inl ⟨u30_, ?_⟩) ?_ ?_; rotate_left
          ·exact u5_
          rotate_left
          ·exact u0_
          refine pure_ (i := 17) (N := some 97) (v := undef) (a' := ?_) (bm_ 25 262143) rfl rfl (any_of HT_.out u8_) (fun _ _ _ h => h) (Or.inr ⟨u30_, rfl⟩) ?_ ?_; rotate_left
          ·exact u0_
          refine pure_ (i := 18) (N := some 98) (v := undef) (a' := ?_) (bm_ 25 524287) rfl rfl (any_of HT_.out u8_) (fun _ _ _ h => h) (Or.inr ⟨u30_, rfl⟩) ?_ ?_; rotate_left
          ·exact u0_
          refine pure_ (i := 19) (N := some 99) (v := undef) (a' := ?_) (bm_ 25 1048575) rfl rfl (any_of HT_.out u8_) (fun _ _ _ h => h) (Or.inr ⟨u30_, rfl⟩) ?_ ?_; rotate_left
          ·exact u0_
          refine pure_ (i := 20) (N := some 100) (v := undef) (a' := ?_) (bm_ 25 2097151) rfl rfl (any_of HT_.out u8_) (fun _ _ _ h => h) (Or.inr ⟨u30_, rfl⟩) ?_ ?_; rotate_left
          ·exact u0_
          refine pure_ (i := 21) (N := some 101) (v := undef) (a' := ?_) (bm_ 25 4194303) rfl rfl (any_of HT_.out u8_) (fun _ _ _ h => h) (Or.inr ⟨u30_, rfl⟩) ?_ ?_; rotate_left
          ·exact u0_
          refine pure_ (i := 22) (N := some 102) (v := undef) (a' := ?_) (bm_ 25 8388607) rfl rfl (any_of HT_.out u8_) (fun _ _ _ h => h) (Or.inr ⟨u30_, rfl⟩) ?_ ?_; rotate_left
          ·exact u0_
          refine pure_ (i := 23) (N := some 103) (v := ?_) (a' := ?_) (bm_ 25 16777215) rfl rfl (any_of HT_.out u8_) (fun _ _ _ h => h) (Or.inl ⟨u30_, ?_⟩) ?_ ?_; rotate_left
          ·exact u5_
          rotate_left
          ·exact u0_
          refine pure_ (i := 24) (N := some 2) (v := ?_) (a' := ?_) (bm_ 25 33554431) rfl rfl (any_of HT_.out u8_) (fun _ _ _ h => h) (Or.inl ⟨u30_, ?_⟩) ?_ ?_; rotate_left
          ·exact u5_
          rotate_left
          ·exact u0_
          refine done_ (done_of HT_.out u8_) ?_; try go_wp2
          go_ret
          exact ⟨u2_, u9_⟩
        ·rw [if_neg c45] at H; have c45b0 : (a0_0 == 4) = false := beq_eq_false_iff_ne.mpr c45; have c45b1 : (a0_0 != 4) = true := bne_iff_ne.mpr c45; by_cases c66 : a0_0 = 5
         ·rw [if_pos c66] at H; have c66b0 : (a0_0 == 5) = true := beq_iff_eq.mpr c66; have c66b1 : (a0_0 != 5) = false := bne_eq_false_iff_eq.mpr c66; clear c66; replace H := Option.bind_eq_some_iff.mp H; obtain ⟨t145, A670, H⟩ := H; replace H : (if t145 = true then (if a0_2.toList = ([] : List UInt8) then ((spec_l1In.f a0_3 (-999999999) 999999999).bind fun t146 => (if t146 = true then ((spec_l1In.f a0_4 (-999999999) 999999999).bind fun t147 => (some t147)) else (some false))) else (some false)) else (some false)) = some r := H; have A67 := am_ A670; clear A670; by_cases c68 : t145 = true
          ·subst c68; rw [if_pos rfl] at H; by_cases c69 : a0_2.toList = ([] : List UInt8)
           ·rw [if_pos c69] at H; have c69b0 : (a0_2.toList == ([] : List UInt8)) = true := beq_iff_eq.mpr c69; have c69b1 : (a0_2.toList != ([] : List UInt8)) = false := bne_eq_false_iff_eq.mpr c69; clear c69; replace H := Option.bind_eq_some_iff.mp H; obtain ⟨t146, A700, H⟩ := H; replace H : (if t146 = true then ((spec_l1In.f a0_4 (-999999999) 999999999).bind fun t147 => (some t147)) else (some false)) = some r := H; have A70 := am_ A700; clear A700; by_cases c71 : t146 = true
            ·subst c71; rw [if_pos rfl] at H; replace H := Option.bind_eq_some_iff.mp H; obtain ⟨t147, A720, H⟩ := H; replace H : (some t147) = some r := H; have A72 := am_ A720; clear A720; obtain rfl := Option.some.inj H; have hcz73_0 : wc.cell? ⟨gb136, 0, none⟩ = some (.int .i64 a0_0) := (blk_cell BK136.out 0).trans rfl; have hcz73_1 : wc.cell? ⟨gb136, 1, none⟩ = some (.string a0_1) := (blk_cell BK136.out 1).trans rfl; have hcz73_2 : wc.cell? ⟨gb136, 2, none⟩ = some (.string a0_2) := (blk_cell BK136.out 2).trans rfl; have hcz73_3 : wc.cell? ⟨gb136, 3, none⟩ = some (.int .i64 a0_3) := (blk_cell BK136.out 3).trans rfl; have hcz73_4 : wc.cell? ⟨gb136, 4, none⟩ = some (.int .i64 a0_4) := (blk_cell BK136.out 4).trans rfl; have hcz73_5 : wc.cell? ⟨gb136, 5, none⟩ = some (.slice A0_5 l0_5.length c0_5) := (blk_cell BK136.out 5).trans rfl; have hfz73_0 := blk_frozen BK136.out 0; have hfz73_1 := blk_frozen BK136.out 1; have hfz73_2 := blk_frozen BK136.out 2; have hfz73_3 := blk_frozen BK136.out 3; have hfz73_4 := blk_frozen BK136.out 4; have hfz73_5 := blk_frozen BK136.out 5; go_wp2_with (first | ((with_reducible refine gate_callee (f := 22) rfl ?_); refine goesL_ (some 108) rfl rfl Tryd.func22 u8_ rfl #[.string a0_1] rfl u4_ ?_; (with_reducible refine (spec_NameOk.calls kj7 a0_1 true _ A67.out).mono ?_); rintro e w' ⟨rfl, ⟨nd, rfl⟩⟩; refine ⟨_, rfl, ?_⟩) | (go_at_call 15; (with_reducible refine (spec_l1In.calls a0_4 (-999999999) 999999999 t147 _ A72.out).mono ?_); rintro e w' ⟨rfl, ⟨nd, rfl⟩⟩) | (go_at_call 15; (with_reducible refine (spec_l1In.calls a0_3 (-999999999) 999999999 true _ A70.out).mono ?_); rintro e w' ⟨rfl, ⟨nd, rfl⟩⟩))
             go_ret
             exact ⟨u2_, u9_⟩
            ·replace c71 := Bool.eq_false_iff.mpr c71; subst c71; rw [if_neg (show ¬ (false = true) by decide)] at H; obtain rfl := Option.some.inj H; have hcz74_0 : wc.cell? ⟨gb136, 0, none⟩ = some (.int .i64 a0_0) := (blk_cell BK136.out 0).trans rfl; have hcz74_1 : wc.cell? ⟨gb136, 1, none⟩ = some (.string a0_1) := (blk_cell BK136.out 1).trans rfl; have hcz74_2 : wc.cell? ⟨gb136, 2, none⟩ = some (.string a0_2) := (blk_cell BK136.out 2).trans rfl; have hcz74_3 : wc.cell? ⟨gb136, 3, none⟩ = some (.int .i64 a0_3) := (blk_cell BK136.out 3).trans rfl; have hcz74_4 : wc.cell? ⟨gb136, 4, none⟩ = some (.int .i64 a0_4) := (blk_cell BK136.out 4).trans rfl; have hcz74_5 : wc.cell? ⟨gb136, 5, none⟩ = some (.slice A0_5 l0_5.length c0_5) := (blk_cell BK136.out 5).trans rfl; have hfz74_0 := blk_frozen BK136.out 0; have hfz74_1 := blk_frozen BK136.out 1; have hfz74_2 := blk_frozen BK136.out 2; have hfz74_3 := blk_frozen BK136.out 3; have hfz74_4 := blk_frozen BK136.out 4; have hfz74_5 := blk_frozen BK136.out 5; go_wp2_with (first | ((with_reducible refine gate_callee (f := 22) rfl ?_); refine goesL_ (some 108) rfl rfl Tryd.func22 u8_ rfl #[.string a0_1] rfl u4_ ?_; (with_reducible refine (spec_NameOk.calls kj7 a0_1 true _ A67.out).mono ?_); rintro e w' ⟨rfl, ⟨nd, rfl⟩⟩; refine ⟨_, rfl, ?_⟩) | (go_at_call 15; (with_reducible refine (spec_l1In.calls a0_3 (-999999999) 999999999 false _ A70.out).mono ?_); rintro e w' ⟨rfl, ⟨nd, rfl⟩⟩))
             go_ret
             exact ⟨u2_, u9_⟩
           ·rw [if_neg c69] at H; have c69b0 : (a0_2.toList == ([] : List UInt8)) = false := beq_eq_false_iff_ne.mpr c69; have c69b1 : (a0_2.toList != ([] : List UInt8)) = true := bne_iff_ne.mpr c69; obtain rfl := Option.some.inj H; have hcz75_0 : wc.cell? ⟨gb136, 0, none⟩ = some (.int .i64 a0_0) := (blk_cell BK136.out 0).trans rfl; have hcz75_1 : wc.cell? ⟨gb136, 1, none⟩ = some (.string a0_1) := (blk_cell BK136.out 1).trans rfl; have hcz75_2 : wc.cell? ⟨gb136, 2, none⟩ = some (.string a0_2) := (blk_cell BK136.out 2).trans rfl; have hcz75_3 : wc.cell? ⟨gb136, 3, none⟩ = some (.int .i64 a0_3) := (blk_cell BK136.out 3).trans rfl; have hcz75_4 : wc.cell? ⟨gb136, 4, none⟩ = some (.int .i64 a0_4) := (blk_cell BK136.out 4).trans rfl; have hcz75_5 : wc.cell? ⟨gb136, 5, none⟩ = some (.slice A0_5 l0_5.length c0_5) := (blk_cell BK136.out 5).trans rfl; have hfz75_0 := blk_frozen BK136.out 0; have hfz75_1 := blk_frozen BK136.out 1; have hfz75_2 := blk_frozen BK136.out 2; have hfz75_3 := blk_frozen BK136.out 3; have hfz75_4 := blk_frozen BK136.out 4; have hfz75_5 := blk_frozen BK136.out 5; go_wp2_with (first | ((with_reducible refine gate_callee (f := 22) rfl ?_); refine goesL_ (some 108) rfl rfl Tryd.func22 u8_ rfl #[.string a0_1] rfl u4_ ?_; (with_reducible refine (spec_NameOk.calls kj7 a0_1 true _ A67.out).mono ?_); rintro e w' ⟨rfl, ⟨nd, rfl⟩⟩; refine ⟨_, rfl, ?_⟩))
            go_ret
            exact ⟨u2_, u9_⟩
          ·replace c68 := Bool.eq_false_iff.mpr c68; subst c68; rw [if_neg (show ¬ (false = true) by decide)] at H; obtain rfl := Option.some.inj H; have hcz76_0 : wc.cell? ⟨gb136, 0, none⟩ = some (.int .i64 a0_0) := (blk_cell BK136.out 0).trans rfl; have hcz76_1 : wc.cell? ⟨gb136, 1, none⟩ = some (.string a0_1) := (blk_cell BK136.out 1).trans rfl; have hcz76_2 : wc.cell? ⟨gb136, 2, none⟩ = some (.string a0_2) := (blk_cell BK136.out 2).trans rfl; have hcz76_3 : wc.cell? ⟨gb136, 3, none⟩ = some (.int .i64 a0_3) := (blk_cell BK136.out 3).trans rfl; have hcz76_4 : wc.cell? ⟨gb136, 4, none⟩ = some (.int .i64 a0_4) := (blk_cell BK136.out 4).trans rfl; have hcz76_5 : wc.cell? ⟨gb136, 5, none⟩ = some (.slice A0_5 l0_5.length c0_5) := (blk_cell BK136.out 5).trans rfl; have hfz76_0 := blk_frozen BK136.out 0; have hfz76_1 := blk_frozen BK136.out 1; have hfz76_2 := blk_frozen BK136.out 2; have hfz76_3 := blk_frozen BK136.out 3; have hfz76_4 := blk_frozen BK136.out 4; have hfz76_5 := blk_frozen BK136.out 5; go_wp2_with (first | ((with_reducible refine gate_callee (f := 22) rfl ?_); refine goesL_ (some 108) rfl rfl Tryd.func22 u8_ rfl #[.string a0_1] rfl u4_ ?_; (with_reducible refine (spec_NameOk.calls kj7 a0_1 false _ A67.out).mono ?_); rintro e w' ⟨rfl, ⟨nd, rfl⟩⟩; refine ⟨_, rfl, ?_⟩))
           go_ret
           exact ⟨u2_, u9_⟩
         ·rw [if_neg c66] at H; have c66b0 : (a0_0 == 5) = false := beq_eq_false_iff_ne.mpr c66; have c66b1 : (a0_0 != 5) = true := bne_iff_ne.mpr c66; by_cases c77 : a0_0 = 6
          ·rw [if_pos c77] at H; have c77b0 : (a0_0 == 6) = true := beq_iff_eq.mpr c77; have c77b1 : (a0_0 != 6) = false := bne_eq_false_iff_eq.mpr c77; clear c77; replace H := Option.bind_eq_some_iff.mp H; obtain ⟨t148, A780, H⟩ := H; replace H : (if t148 = true then ((spec_NameOk.f kj7 a0_2).bind fun t149 => (if t149 = true then (some x4_7) else (some false))) else (some false)) = some r := H; have A78 := am_ A780; clear A780; by_cases c79 : t148 = true
           ·subst c79; rw [if_pos rfl] at H; replace H := Option.bind_eq_some_iff.mp H; obtain ⟨t149, A800, H⟩ := H; replace H : (if t149 = true then (some x4_7) else (some false)) = some r := H; have A80 := am_ A800; clear A800; by_cases c81 : t149 = true
            ·subst c81; rw [if_pos rfl] at H; obtain rfl := Option.some.inj H; have hcz82_0 : wc.cell? ⟨gb136, 0, none⟩ = some (.int .i64 a0_0) := (blk_cell BK136.out 0).trans rfl; have hcz82_1 : wc.cell? ⟨gb136, 1, none⟩ = some (.string a0_1) := (blk_cell BK136.out 1).trans rfl; have hcz82_2 : wc.cell? ⟨gb136, 2, none⟩ = some (.string a0_2) := (blk_cell BK136.out 2).trans rfl; have hcz82_3 : wc.cell? ⟨gb136, 3, none⟩ = some (.int .i64 a0_3) := (blk_cell BK136.out 3).trans rfl; have hcz82_4 : wc.cell? ⟨gb136, 4, none⟩ = some (.int .i64 a0_4) := (blk_cell BK136.out 4).trans rfl; have hcz82_5 : wc.cell? ⟨gb136, 5, none⟩ = some (.slice A0_5 l0_5.length c0_5) := (blk_cell BK136.out 5).trans rfl; have hfz82_0 := blk_frozen BK136.out 0; have hfz82_1 := blk_frozen BK136.out 1; have hfz82_2 := blk_frozen BK136.out 2; have hfz82_3 := blk_frozen BK136.out 3; have hfz82_4 := blk_frozen BK136.out 4; have hfz82_5 := blk_frozen BK136.out 5; go_wp2_with (first | ((with_reducible refine gate_callee (f := 22) rfl ?_); refine goesL_ (some 128) rfl rfl Tryd.func22 u8_ rfl #[.string a0_1] rfl u4_ ?_; (with_reducible refine (spec_NameOk.calls kj7 a0_1 true _ A78.out).mono ?_); rintro e w' ⟨rfl, ⟨nd, rfl⟩⟩; refine ⟨_, rfl, ?_⟩) | (go_at_call 22; (with_reducible refine (spec_NameOk.calls kj7 a0_2 true _ A80.out).mono ?_); rintro e w' ⟨rfl, ⟨nd, rfl⟩⟩))
             go_ret
             exact ⟨u2_, u9_⟩
            ·replace c81 := Bool.eq_false_iff.mpr c81; subst c81; rw [if_neg (show ¬ (false = true) by decide)] at H; obtain rfl := Option.some.inj H; have hcz83_0 : wc.cell? ⟨gb136, 0, none⟩ = some (.int .i64 a0_0) := (blk_cell BK136.out 0).trans rfl; have hcz83_1 : wc.cell? ⟨gb136, 1, none⟩ = some (.string a0_1) := (blk_cell BK136.out 1).trans rfl; have hcz83_2 : wc.cell? ⟨gb136, 2, none⟩ = some (.string a0_2) := (blk_cell BK136.out 2).trans rfl; have hcz83_3 : wc.cell? ⟨gb136, 3, none⟩ = some (.int .i64 a0_3) := (blk_cell BK136.out 3).trans rfl; have hcz83_4 : wc.cell? ⟨gb136, 4, none⟩ = some (.int .i64 a0_4) := (blk_cell BK136.out 4).trans rfl; have hcz83_5 : wc.cell? ⟨gb136, 5, none⟩ = some (.slice A0_5 l0_5.length c0_5) := (blk_cell BK136.out 5).trans rfl; have hfz83_0 := blk_frozen BK136.out 0; have hfz83_1 := blk_frozen BK136.out 1; have hfz83_2 := blk_frozen BK136.out 2; have hfz83_3 := blk_frozen BK136.out 3; have hfz83_4 := blk_frozen BK136.out 4; have hfz83_5 := blk_frozen BK136.out 5; go_wp2_with (first | ((with_reducible refine gate_callee (f := 22) rfl ?_); refine goesL_ (some 128) rfl rfl Tryd.func22 u8_ rfl #[.string a0_1] rfl u4_ ?_; (with_reducible refine (spec_NameOk.calls kj7 a0_1 true _ A78.out).mono ?_); rintro e w' ⟨rfl, ⟨nd, rfl⟩⟩; refine ⟨_, rfl, ?_⟩) | (go_at_call 22; (with_reducible refine (spec_NameOk.calls kj7 a0_2 false _ A80.out).mono ?_); rintro e w' ⟨rfl, ⟨nd, rfl⟩⟩))
             go_ret
             exact ⟨u2_, u9_⟩
           ·replace c79 := Bool.eq_false_iff.mpr c79; subst c79; rw [if_neg (show ¬ (false = true) by decide)] at H; obtain rfl := Option.some.inj H; have hcz84_0 : wc.cell? ⟨gb136, 0, none⟩ = some (.int .i64 a0_0) := (blk_cell BK136.out 0).trans rfl; have hcz84_1 : wc.cell? ⟨gb136, 1, none⟩ = some (.string a0_1) := (blk_cell BK136.out 1).trans rfl; have hcz84_2 : wc.cell? ⟨gb136, 2, none⟩ = some (.string a0_2) := (blk_cell BK136.out 2).trans rfl; have hcz84_3 : wc.cell? ⟨gb136, 3, none⟩ = some (.int .i64 a0_3) := (blk_cell BK136.out 3).trans rfl; have hcz84_4 : wc.cell? ⟨gb136, 4, none⟩ = some (.int .i64 a0_4) := (blk_cell BK136.out 4).trans rfl; have hcz84_5 : wc.cell? ⟨gb136, 5, none⟩ = some (.slice A0_5 l0_5.length c0_5) := (blk_cell BK136.out 5).trans rfl; have hfz84_0 := blk_frozen BK136.out 0; have hfz84_1 := blk_frozen BK136.out 1; have hfz84_2 := blk_frozen BK136.out 2; have hfz84_3 := blk_frozen BK136.out 3; have hfz84_4 := blk_frozen BK136.out 4; have hfz84_5 := blk_frozen BK136.out 5; go_wp2_with (first | ((with_reducible refine gate_callee (f := 22) rfl ?_); refine goesL_ (some 128) rfl rfl Tryd.func22 u8_ rfl #[.string a0_1] rfl u4_ ?_; (with_reducible refine (spec_NameOk.calls kj7 a0_1 false _ A78.out).mono ?_); rintro e w' ⟨rfl, ⟨nd, rfl⟩⟩; refine ⟨_, rfl, ?_⟩))
            go_ret
            exact ⟨u2_, u9_⟩
          ·rw [if_neg c77] at H; have c77b0 : (a0_0 == 6) = false := beq_eq_false_iff_ne.mpr c77; have c77b1 : (a0_0 != 6) = true := bne_iff_ne.mpr c77; obtain rfl := Option.some.inj H; have hcz85_0 : wc.cell? ⟨gb136, 0, none⟩ = some (.int .i64 a0_0) := (blk_cell BK136.out 0).trans rfl; have hcz85_1 : wc.cell? ⟨gb136, 1, none⟩ = some (.string a0_1) := (blk_cell BK136.out 1).trans rfl; have hcz85_2 : wc.cell? ⟨gb136, 2, none⟩ = some (.string a0_2) := (blk_cell BK136.out 2).trans rfl; have hcz85_3 : wc.cell? ⟨gb136, 3, none⟩ = some (.int .i64 a0_3) := (blk_cell BK136.out 3).trans rfl; have hcz85_4 : wc.cell? ⟨gb136, 4, none⟩ = some (.int .i64 a0_4) := (blk_cell BK136.out 4).trans rfl; have hcz85_5 : wc.cell? ⟨gb136, 5, none⟩ = some (.slice A0_5 l0_5.length c0_5) := (blk_cell BK136.out 5).trans rfl; have hfz85_0 := blk_frozen BK136.out 0; have hfz85_1 := blk_frozen BK136.out 1; have hfz85_2 := blk_frozen BK136.out 2; have hfz85_3 := blk_frozen BK136.out 3; have hfz85_4 := blk_frozen BK136.out 4; have hfz85_5 := blk_frozen BK136.out 5; go_wp2; go_ret
           exact ⟨u2_, u9_⟩

end Go.Proofs.YthlabmfecmdlcaaDoor.PFnExactQueryOk
