/- Contracts of Go functions that the law FnDoc reaches: each is told as a plain Lean function, with the walk that shows it; no condition beyond what each states. Written by a program of this session round the kit's printer. -/
import Derived.Test.YtglcgkbecfmegaaDoorQPFnDocx0
import Derived.Test.YtglcgkbecfmegaaDoorQPFnDocx6
namespace Go.Proofs.YtglcgkbecfmegaaDoor.PFnDoc
open Go.RowKit Go.Proofs.YtglcgkbecfmegaaDoorW.PrintWords Go.Proofs.YtglcgkbecfmegaaDoorW.PrintLast Go.Proofs.YtglcgkbecfmegaaDoorW.PrintMore
attribute [local go_sem] run_str_geq run_str_leq max2_int min2_int max_two min_two max_three min_three max_four min_four   -- for this text's walks alone
set_option linter.unusedVariables false
set_option linter.unusedSimpArgs false

/-! ### spec_l11Doc: function 65 -/
mutual
def spec_l11Doc.l0 : Nat → List (S32) → List ByteArray → Int → List Int → Int → ByteArray → List (S74) → Option (ByteArray × (List (S74)) × Int)
 | 0, _, _, _, _, _, _, _ => none
 | k + 1, x1, x6, x7, x1000, x1001, x210000, x210001 => if x7 < (x6.length : Int) then (if 0 ≤ x7 then ((spec_l2Field.f k x1 (rdOf ByteArray.empty x6 x7)).bind fun t214 => (if t214 < 0 then (spec_l11Doc.j1 k x1 x6 x7 t214 true x1000 x1001 x210000 x210001) else ((spec_l1Rd_pick.f k x1000 x1001 4).bind fun bt215 => (spec_l11Doc.j1 k x1 x6 x7 t214 (bt215.1 == 0) x1000 bt215.2 x210000 x210001)))) else (none)) else (some (x210000, x210001, x1001))
def spec_l11Doc.j1 : Nat → List (S32) → List ByteArray → Int → Int → Bool → List Int → Int → ByteArray → List (S74) → Option (ByteArray × (List (S74)) × Int)
 | 0, _, _, _, _, _, _, _, _, _ => none
 | k + 1, x1, x6, x7, x8, x33, x1000, x1001, x210000, x210001 => if x33 = true then (spec_l11Doc.l0 k x1 x6 (wrap64 (x7 + 1)) x1000 x1001 x210000 x210001) else (if 0 ≤ x7 then (if x7 < (x6.length : Int) then ((spec_l11Text.f k x1000 x1001).bind fun bt218 => (if 0 ≤ x8 then (if x8 < (x1.length : Int) then (if ((rd_T32 x1 x8).f1) = 2 then ((spec_l1Rd_of.f k x1000 bt218.2 (([(⟨#[48]⟩ : ByteArray), (⟨#[53]⟩ : ByteArray), (⟨#[55]⟩ : ByteArray), (⟨#[45, 51]⟩ : ByteArray), (⟨#[49, 50]⟩ : ByteArray), (⟨#[57, 57, 57, 57, 57, 57, 57, 57, 57]⟩ : ByteArray)] : List ByteArray))).bind fun bt225 => (if x210001.length < 4398046511104 then (spec_l11Doc.l0 k x1 x6 (wrap64 (x7 + 1)) x1000 bt225.2 x210000 (x210001 ++ [(⟨rdOf ByteArray.empty x6 x7, bt225.1⟩ : S74)])) else (none))) else (if ((rd_T32 x1 x8).f1) = 3 then ((spec_l1Rd_of.f k x1000 bt218.2 (([(⟨#[114, 101, 100]⟩ : ByteArray), (⟨#[98, 108, 117, 101]⟩ : ByteArray), (⟨#[114, 101, 100, 44, 98, 108, 117, 101]⟩ : ByteArray), (⟨#[98, 108, 117, 101, 44, 114, 101, 100, 44, 114, 101, 100]⟩ : ByteArray), (⟨#[103, 114, 101, 101, 110]⟩ : ByteArray)] : List ByteArray))).bind fun bt233 => (if x210001.length < 4398046511104 then (spec_l11Doc.l0 k x1 x6 (wrap64 (x7 + 1)) x1000 bt233.2 x210000 (x210001 ++ [(⟨rdOf ByteArray.empty x6 x7, bt233.1⟩ : S74)])) else (none))) else (if x210001.length < 4398046511104 then (spec_l11Doc.l0 k x1 x6 (wrap64 (x7 + 1)) x1000 bt218.2 x210000 (x210001 ++ [(⟨rdOf ByteArray.empty x6 x7, bt218.1⟩ : S74)])) else (none)))) else (none)) else (none))) else (none)) else (none))
end
def spec_l11Doc.f (k : Nat) (s0_0 : List Int) (s0_1 : Int) (l1 : List (S32)) : Option (ByteArray × (List (S74)) × Int) := (spec_l1Rd_of.f k s0_0 s0_1 (([(⟨#[97]⟩ : ByteArray), (⟨#[98]⟩ : ByteArray), (⟨#[99]⟩ : ByteArray), (⟨#[100]⟩ : ByteArray), (⟨#[101]⟩ : ByteArray), (⟨#[107, 57]⟩ : ByteArray)] : List ByteArray))).bind fun bt207 => (spec_l11Doc.l0 k l1 (([(⟨#[98, 111, 100, 121]⟩ : ByteArray), (⟨#[99, 111, 108, 111, 114]⟩ : ByteArray), (⟨#[112, 114, 105, 99, 101]⟩ : ByteArray), (⟨#[116, 105, 116, 108, 101]⟩ : ByteArray)] : List ByteArray)) 0 s0_0 bt207.2 bt207.1 ([] : List (S74)))
theorem spec_l11Doc.mono_l : ∀ k, (∀ y0 y1 y2 y3 y4 y5 y6, LeO (spec_l11Doc.l0 k y0 y1 y2 y3 y4 y5 y6) (spec_l11Doc.l0 (k + 1) y0 y1 y2 y3 y4 y5 y6)) ∧ (∀ y0 y1 y2 y3 y4 y5 y6 y7 y8, LeO (spec_l11Doc.j1 k y0 y1 y2 y3 y4 y5 y6 y7 y8) (spec_l11Doc.j1 (k + 1) y0 y1 y2 y3 y4 y5 y6 y7 y8))
 | 0 => ⟨fun _ _ _ _ _ _ _ r h => by simp [spec_l11Doc.l0] at h, fun _ _ _ _ _ _ _ _ _ r h => by simp [spec_l11Doc.j1] at h⟩
 | k + 1 => by
  obtain ⟨ih0, ih1⟩ := spec_l11Doc.mono_l k
  refine ⟨?_, ?_⟩
  ·intro y0 y1 y2 y3 y4 y5 y6
   unfold spec_l11Doc.l0
   repeat' first
   | (with_reducible exact ih0 _ _ _ _ _ _ _)
   | (with_reducible exact ih1 _ _ _ _ _ _ _ _ _)
   | (with_reducible exact spec_l11Text.mono _ _ _)
   | (with_reducible exact spec_l1Rd_of.mono _ _ _ _)
   | (with_reducible exact spec_l1Rd_pick.mono _ _ _ _)
   | (with_reducible exact spec_l2Field.mono _ _ _)
   | (with_reducible exact LeO.refl _)
   | (with_reducible exact LeO.none _)
   | (with_reducible refine LeO.ite ?_ ?_)
   | (with_reducible refine LeO.bind ?_ (fun _ => ?_))
   | exact ih0 _ _ _ _ _ _ _
   | exact ih1 _ _ _ _ _ _ _ _ _
   | exact spec_l11Text.mono _ _ _
   | exact spec_l1Rd_of.mono _ _ _ _
   | exact spec_l1Rd_pick.mono _ _ _ _
   | exact spec_l2Field.mono _ _ _
   | exact LeO.none _
   | refine LeO.ite ?_ ?_
   | refine LeO.bind ?_ (fun _ => ?_)
  ·intro y0 y1 y2 y3 y4 y5 y6 y7 y8
   unfold spec_l11Doc.j1
   repeat' first
   | (with_reducible exact ih0 _ _ _ _ _ _ _)
   | (with_reducible exact ih1 _ _ _ _ _ _ _ _ _)
   | (with_reducible exact spec_l11Text.mono _ _ _)
   | (with_reducible exact spec_l1Rd_of.mono _ _ _ _)
   | (with_reducible exact spec_l1Rd_pick.mono _ _ _ _)
   | (with_reducible exact spec_l2Field.mono _ _ _)
   | (with_reducible exact LeO.refl _)
   | (with_reducible exact LeO.none _)
   | (with_reducible refine LeO.ite ?_ ?_)
   | (with_reducible refine LeO.bind ?_ (fun _ => ?_))
   | exact ih0 _ _ _ _ _ _ _
   | exact ih1 _ _ _ _ _ _ _ _ _
   | exact spec_l11Text.mono _ _ _
   | exact spec_l1Rd_of.mono _ _ _ _
   | exact spec_l1Rd_pick.mono _ _ _ _
   | exact spec_l2Field.mono _ _ _
   | exact LeO.none _
   | refine LeO.ite ?_ ?_
   | refine LeO.bind ?_ (fun _ => ?_)
theorem spec_l11Doc.mono : ∀ a0 a1 a2 k, LeO (spec_l11Doc.f k a0 a1 a2) (spec_l11Doc.f (k + 1) a0 a1 a2) := by
 intro a0 a1 a2 k
 obtain ⟨ih0, ih1⟩ := spec_l11Doc.mono_l k
 unfold spec_l11Doc.f
 repeat' first
   | (with_reducible exact ih0 _ _ _ _ _ _ _)
   | (with_reducible exact ih1 _ _ _ _ _ _ _ _ _)
   | (with_reducible exact spec_l11Text.mono _ _ _)
   | (with_reducible exact spec_l1Rd_of.mono _ _ _ _)
   | (with_reducible exact spec_l1Rd_pick.mono _ _ _ _)
   | (with_reducible exact spec_l2Field.mono _ _ _)
   | (with_reducible exact LeO.refl _)
   | (with_reducible exact LeO.none _)
   | (with_reducible refine LeO.ite ?_ ?_)
   | (with_reducible refine LeO.bind ?_ (fun _ => ?_))
   | exact ih0 _ _ _ _ _ _ _
   | exact ih1 _ _ _ _ _ _ _ _ _
   | exact spec_l11Text.mono _ _ _
   | exact spec_l1Rd_of.mono _ _ _ _
   | exact spec_l1Rd_pick.mono _ _ _ _
   | exact spec_l2Field.mono _ _ _
   | exact LeO.none _
   | refine LeO.ite ?_ ?_
   | refine LeO.bind ?_ (fun _ => ?_)
def spec_l11Doc.T8 : Bool × List (List Nat × List Nat) := (true, [([], []), ([], []), ([0, 1], [0, 1]), ([2], [2]), ([], []), ([4], [4]), ([3, 5], [3, 5]), ([], []), ([7, 6, 5, 0, 1, 2, 3, 4, 5, 6, 7], [6, 7])])
def spec_l11Doc.B8 : List Nat := [0, 0, 3, 7, 0, 16, 63, 0, 255]
theorem spec_l11Doc.tab8 : rtab .any (opsOf Tryd.f65 8) = spec_l11Doc.T8 := by kernel_rfl
theorem spec_l11Doc.bits8 : waitsOk spec_l11Doc.T8.2 spec_l11Doc.B8 = true := by kernel_rfl
set_option maxHeartbeats 8000000 in
set_option maxRecDepth 100000 in
theorem spec_l11Doc.calls (k : Nat) (g : Nat) (s0_0 : List Int) (s0_1 : Int) (A1 : Option Addr) (c1 : Nat) (l1 : List (S32)) (r1 : ByteArray) (r2 : List (S74)) (r3 : Int) (w0 w : World) (hI : IsS106 w0 w g s0_0 s0_1) (hB : Below w0.heap.size w0 w) (hr1 : ∀ W_, KeepBut w W_ g none → Kd.C k32 W_ A1 l1.length l1) (hc1 : l1.length ≤ c1) (h : spec_l11Doc.f k s0_0 s0_1 l1 = some (r1, r2, r3)) :
  Calls Tryd.prog 65 #[.pointer (some ⟨g, 0, none⟩), .slice A1 l1.length c1] w fun e w' => ∃ v1_ : Value, e = .returned (.agg #[.string r1, v1_]) ∧ Kd.R k74 74 w' w.heap.size (fun _ => True) v1_ r2 ∧ IsS106 w0 w' g s0_0 r3 ∧ Below w0.heap.size w0 w' ∧ KeepBut w w' g none := by
 have hu37 := Tryd.underlying37
 have hu74 := Tryd.underlying74
 have HR1 := Aside0.mk hr1
 have HC1 := Aside0.mk hc1
 clear hr1 hc1
 have HI0 := Aside0.mk hI
 have HK := Aside0.mk (KeepBut.refl w g none)
 have HL := Aside0.mk hB.size
 clear hI
 have HW0 := Aside0.mk hB.size
 have HB := Aside0.mk hB
 clear hB
 have H : ((spec_l1Rd_of.f k s0_0 s0_1 (([(⟨#[97]⟩ : ByteArray), (⟨#[98]⟩ : ByteArray), (⟨#[99]⟩ : ByteArray), (⟨#[100]⟩ : ByteArray), (⟨#[101]⟩ : ByteArray), (⟨#[107, 57]⟩ : ByteArray)] : List ByteArray))).bind fun bt207 => (spec_l11Doc.l0 k l1 (([(⟨#[98, 111, 100, 121]⟩ : ByteArray), (⟨#[99, 111, 108, 111, 114]⟩ : ByteArray), (⟨#[112, 114, 105, 99, 101]⟩ : ByteArray), (⟨#[116, 105, 116, 108, 101]⟩ : ByteArray)] : List ByteArray)) 0 s0_0 bt207.2 bt207.1 ([] : List (S74)))) = some (r1, r2, r3) := h
 clear h
 obtain ⟨y204, hy204⟩ : ∃ y_ : List ByteArray, y_ = (([(⟨#[97]⟩ : ByteArray), (⟨#[98]⟩ : ByteArray), (⟨#[99]⟩ : ByteArray), (⟨#[100]⟩ : ByteArray), (⟨#[101]⟩ : ByteArray), (⟨#[107, 57]⟩ : ByteArray)] : List ByteArray)) := ⟨_, rfl⟩
 replace H : ((spec_l1Rd_of.f k s0_0 s0_1 y204).bind fun bt207 => (spec_l11Doc.l0 k l1 (([(⟨#[98, 111, 100, 121]⟩ : ByteArray), (⟨#[99, 111, 108, 111, 114]⟩ : ByteArray), (⟨#[112, 114, 105, 99, 101]⟩ : ByteArray), (⟨#[116, 105, 116, 108, 101]⟩ : ByteArray)] : List ByteArray)) 0 s0_0 bt207.2 bt207.1 ([] : List (S74)))) = some (r1, r2, r3) := by first | (rw [hy204]; with_reducible exact H) | (have H2_ := (Option.bind_some _ _).symm.trans H; rw [hy204]; with_reducible exact H2_) | (have H2_ := (Option.bind_some _ _).symm.trans H; with_reducible exact H2_) | with_reducible exact H | (rw [hy204]; exact H) | exact H
 have Ny204 := Aside0.mk hy204
 clear hy204
 replace H := Option.bind_eq_some_iff.mp H
 obtain ⟨⟨t207, t208⟩, A30, H⟩ := H
 replace H : (spec_l11Doc.l0 k l1 (([(⟨#[98, 111, 100, 121]⟩ : ByteArray), (⟨#[99, 111, 108, 111, 114]⟩ : ByteArray), (⟨#[112, 114, 105, 99, 101]⟩ : ByteArray), (⟨#[116, 105, 116, 108, 101]⟩ : ByteArray)] : List ByteArray)) 0 s0_0 t208 t207 ([] : List (S74))) = some (r1, r2, r3) := H
 have A3 := Aside0.mk A30
 clear A30
 obtain ⟨y210, hy210⟩ : ∃ y_ : List ByteArray, y_ = (([(⟨#[98, 111, 100, 121]⟩ : ByteArray), (⟨#[99, 111, 108, 111, 114]⟩ : ByteArray), (⟨#[112, 114, 105, 99, 101]⟩ : ByteArray), (⟨#[116, 105, 116, 108, 101]⟩ : ByteArray)] : List ByteArray)) := ⟨_, rfl⟩
 replace H : (spec_l11Doc.l0 k l1 y210 0 s0_0 t208 t207 ([] : List (S74))) = some (r1, r2, r3) := by first | (rw [hy210]; with_reducible exact H) | (have H2_ := (Option.bind_some _ _).symm.trans H; rw [hy210]; with_reducible exact H2_) | (have H2_ := (Option.bind_some _ _).symm.trans H; with_reducible exact H2_) | with_reducible exact H | (rw [hy210]; exact H) | exact H
 have Ny210 := Aside0.mk hy210
 clear hy210
 have H' := Aside0.mk H
 clear H
 go_enter Tryd.func65, Tryd.ntmps65
 go_wp2_with (first | ((with_reducible refine gate_dst (N := 4) rfl ?_); refine box_event ?hg (N := 4) ?hd (cs := #[.string (⟨#[]⟩ : ByteArray), .slice none 0 0]) (t := 37) ?hr ?_; (case hd => rfl); (case hg => rfl); (case hr => first | (go_simp; done) | (go_simp; rfl)); intro gb203 hg w4 hbox hb; have n0_ := Aside0.mk (IsS106.below u19_ hb); have n1_ := Aside0.mk (KeepBut.trans u2_ (KeepBut.of_below hb g none) (.inl rfl)); have n2_ := Aside0.mk (below_step u14_ hb); have n3_ := Aside0.mk (hbox); have n4_ := Aside0.mk ((by rw [hg]; exact (keep_size (w := w) (g := g) (row := none) u2_) : w.heap.size ≤ gb203)); have n5_ := Aside0.mk ((Nat.le_trans HW0.out (by rw [hg]; exact (keep_size (w := w) (g := g) (row := none) u2_) : w.heap.size ≤ gb203) : w0.heap.size ≤ gb203)); have n6_ := Aside0.mk ((by rw [hg]; exact Nat.ne_of_lt (IsS106.lt (show IsS106 w0 _ g s0_0 s0_1 from by repeat (first | (with_reducible first | exact HI0.out | apply IsS106.alloc | apply IsS106.drewN | apply IsS106.drew | apply IsS106.set_1) | exact HI0.out))) : g ≠ gb203)); have n7_ := Aside0.mk ((by rw [hg]; exact Nat.ne_of_gt (IsS106.lt (show IsS106 w0 _ g s0_0 s0_1 from by repeat (first | (with_reducible first | exact HI0.out | apply IsS106.alloc | apply IsS106.drewN | apply IsS106.drew | apply IsS106.set_1) | exact HI0.out))) : gb203 ≠ g)); clear HI0; clear HK; clear HB; have HI0 := n0_; have HK := n1_; have HB := n2_; have BK203 := n3_; have GW203 := n4_; have GE203 := n5_; have NB0_203 := n6_; have NB203_0 := n7_; clear n0_ n1_ n2_ n3_ n4_ n5_ n6_ n7_; clear hb hbox hg) | ((with_reducible refine gate_dst (N := 11) rfl ?_); refine Kd.R_lit Kd.string _ 9 ?hg (N := 11) ?hd (xs := ([(⟨#[97]⟩ : ByteArray), (⟨#[98]⟩ : ByteArray), (⟨#[99]⟩ : ByteArray), (⟨#[100]⟩ : ByteArray), (⟨#[101]⟩ : ByteArray), (⟨#[107, 57]⟩ : ByteArray)] : List ByteArray)) (inner := [.string (⟨#[97]⟩ : ByteArray), .string (⟨#[98]⟩ : ByteArray), .string (⟨#[99]⟩ : ByteArray), .string (⟨#[100]⟩ : ByteArray), .string (⟨#[101]⟩ : ByteArray), .string (⟨#[107, 57]⟩ : ByteArray)]) (ok := fun _ => True) (okp := fun _ => True) ?hr ?hp (fun _ hk => hk) trivial (Below.refl _ _) (Nat.le_refl _) u89_ ?_; (case hd => rfl); (case hg => rfl); (case hr => first | (go_simp; done) | (go_simp; rfl)); (case hp => exact (Reps.one (show Kd.M Kd.string _ _ _ (⟨#[97]⟩ : ByteArray) [.string (⟨#[97]⟩ : ByteArray)] from rfl) (Reps.one (show Kd.M Kd.string _ _ _ (⟨#[98]⟩ : ByteArray) [.string (⟨#[98]⟩ : ByteArray)] from rfl) (Reps.one (show Kd.M Kd.string _ _ _ (⟨#[99]⟩ : ByteArray) [.string (⟨#[99]⟩ : ByteArray)] from rfl) (Reps.one (show Kd.M Kd.string _ _ _ (⟨#[100]⟩ : ByteArray) [.string (⟨#[100]⟩ : ByteArray)] from rfl) (Reps.one (show Kd.M Kd.string _ _ _ (⟨#[101]⟩ : ByteArray) [.string (⟨#[101]⟩ : ByteArray)] from rfl) (Reps.one (show Kd.M Kd.string _ _ _ (⟨#[107, 57]⟩ : ByteArray) [.string (⟨#[107, 57]⟩ : ByteArray)] from rfl) (Reps.none _ _)))))))); intro v205 w5 ho6 hb hg_ hnew_; clear hg_ hnew_; (first | rw [← Ny204.out] at ho6 | (simp only [Int.reduceToNat] at ho6; rw [← Ny204.out] at ho6)); have n0_ := Aside0.mk (Kd.R_lower ho6 (keep_size (w := w) (g := g) (row := none) u68_)); have n1_ := Aside0.mk (IsS106.below (by repeat (first | (with_reducible first | exact HI0.out | apply IsS106.alloc | apply IsS106.drewN | apply IsS106.drew | apply IsS106.set_1 | refine IsS106.far ?_ NB0_203.out _) | exact HI0.out)) hb); have n2_ := Aside0.mk (blk_below (g := gb203) (o := .cells #[.string (⟨#[]⟩ : ByteArray), .slice none 0 0] 37 (0, 0)) u12_ hb); have n3_ := Aside0.mk (KeepBut.trans u68_ (KeepBut.of_below hb g none) (.inl rfl)); have n4_ := Aside0.mk (below_step u115_ hb); clear HI0; clear BK203; clear HK; clear HB; have HO206 := n0_; have HI0 := n1_; have BK203 := n2_; have HK := n3_; have HB := n4_; clear n0_ n1_ n2_ n3_ n4_; clear hb ho6; obtain ⟨Ao7, co7, eo7⟩ := Kd.R_slice HO206.out; subst eo7) | ((with_reducible refine gate_callee (f := 78) rfl ?_); refine goesL_ (some 12) rfl rfl Tryd.func78 u17_ rfl #[.pointer (some ⟨g, 0, none⟩), .slice Ao7 y204.length co7] rfl u0_ ?_; (with_reducible refine (spec_l1Rd_of.calls k g s0_0 s0_1 _ _ y204 t207 t208 w0 _ ?side1 ?side2 ?side3 ?side4 ?side5 A3.out).mono ?_); (case side1 => repeat (first | (with_reducible first | exact HI0.out | apply IsS106.alloc | apply IsS106.drewN | apply IsS106.drew | apply IsS106.set_1 | refine IsS106.far ?_ NB0_203.out _) | exact HI0.out)); (case side2 => repeat (first | (with_reducible first | exact HB.out | apply below_alloc | apply pw_below_drewN | apply below_drew1 | refine below_set ?_ (IsS106.ge HI0.out) | refine below_set ?_ GE203.out) | exact HB.out)); (case side3 => repeat (first | exact (Kd.R_reads' HO206.out).2.2 | (with_reducible refine Kd.C_alloc ?_ _) | (with_reducible refine Kd.C_drewN ?_ _) | (with_reducible refine Kd.C_drew ?_))); (case side4 => exact (Kd.R_reads' HO206.out).2.1); (case side5 => exact far_slice (IsS106.own_ne HI0.out HO206.out u39_)); rintro e w8 ⟨rfl, hi, hb, hk⟩; refine ⟨_, rfl, ?_⟩; have n0_ := Aside0.mk (KeepBut.blk hk (g' := gb203) (o := .cells #[.string (⟨#[]⟩ : ByteArray), .slice none 0 0] 37 (0, 0)) u12_ NB203_0.out u89_); have n1_ := Aside0.mk (Kd.R_mono (Kd.R_keep (IsS106.apart (show IsS106 w0 _ g s0_0 s0_1 from by repeat (first | (with_reducible first | exact HI0.out | apply IsS106.alloc | apply IsS106.drewN | apply IsS106.drew | apply IsS106.set_1 | refine IsS106.far ?_ NB0_203.out _) | exact HI0.out)) (by (with_reducible repeat (first | apply Kd.R_alloc | apply Kd.R_drewN | apply Kd.R_drew)); exact HO206.out) u39_) hk (fun _ h => h.2)) (fun _ h => h.1)); have n2_ := Aside0.mk (KeepBut.trans u68_ hk (.inl rfl)); have n3_ := Aside0.mk (hb); have n4_ := Aside0.mk (hi); clear BK203; clear HO206; clear HK; clear HB; clear HI0; have BK203 := n0_; have HO206 := n1_; have HK := n2_; have HB := n3_; have HI0 := n4_; clear n0_ n1_ n2_ n3_ n4_; (try clear hb); (try clear hb2); (try clear hk); (try clear hi)) | ((with_reducible refine gate_dst (N := 5) rfl ?_); refine box_event ?hg (N := 5) ?hd (cs := #[.string (⟨#[]⟩ : ByteArray), .slice none 0 0]) (t := 37) ?hr ?_; (case hd => rfl); (case hg => rfl); (case hr => first | (go_simp; done) | (go_simp; rfl)); intro gb209 hg w9 hbox hb; have n0_ := Aside0.mk (Kd.R_below (by (with_reducible repeat (first | apply Kd.R_alloc | apply Kd.R_drewN | apply Kd.R_drew)); exact HO206.out) hb); have n1_ := Aside0.mk (IsS106.below (by repeat (first | (with_reducible first | exact HI0.out | apply IsS106.alloc | apply IsS106.drewN | apply IsS106.drew | apply IsS106.set_1 | refine IsS106.far ?_ NB0_203.out _) | exact HI0.out)) hb); have n2_ := Aside0.mk (blk_below (g := gb203) (o := .cells #[.string (⟨#[]⟩ : ByteArray), .slice none 0 0] 37 (0, 0)) u12_ hb); have n3_ := Aside0.mk (KeepBut.trans u68_ (KeepBut.of_below hb g none) (.inl rfl)); have n4_ := Aside0.mk (below_step u115_ hb); have n5_ := Aside0.mk (hbox); have n6_ := Aside0.mk ((by rw [hg]; exact (keep_size (w := w) (g := g) (row := none) u68_) : w.heap.size ≤ gb209)); have n7_ := Aside0.mk ((Nat.le_trans HW0.out (by rw [hg]; exact (keep_size (w := w) (g := g) (row := none) u68_) : w.heap.size ≤ gb209) : w0.heap.size ≤ gb209)); have n8_ := Aside0.mk ((by rw [hg]; exact Nat.ne_of_lt (blk_lt (g := gb203) (o := .cells #[.string (⟨#[]⟩ : ByteArray), .slice none 0 0] 37 (0, 0)) u12_) : gb203 ≠ gb209)); have n9_ := Aside0.mk ((by rw [hg]; exact Nat.ne_of_gt (blk_lt (g := gb203) (o := .cells #[.string (⟨#[]⟩ : ByteArray), .slice none 0 0] 37 (0, 0)) u12_) : gb209 ≠ gb203)); have n10_ := Aside0.mk ((by rw [hg]; exact Nat.ne_of_lt (IsS106.lt (show IsS106 w0 _ g s0_0 t208 from by repeat (first | (with_reducible first | exact HI0.out | apply IsS106.alloc | apply IsS106.drewN | apply IsS106.drew | apply IsS106.set_1 | refine IsS106.far ?_ NB0_203.out _) | exact HI0.out))) : g ≠ gb209)); have n11_ := Aside0.mk ((by rw [hg]; exact Nat.ne_of_gt (IsS106.lt (show IsS106 w0 _ g s0_0 t208 from by repeat (first | (with_reducible first | exact HI0.out | apply IsS106.alloc | apply IsS106.drewN | apply IsS106.drew | apply IsS106.set_1 | refine IsS106.far ?_ NB0_203.out _) | exact HI0.out))) : gb209 ≠ g)); clear HO206; clear HI0; clear BK203; clear HK; clear HB; have HO206 := n0_; have HI0 := n1_; have BK203 := n2_; have HK := n3_; have HB := n4_; have BK209 := n5_; have GW209 := n6_; have GE209 := n7_; have NB203_209 := n8_; have NB209_203 := n9_; have NB0_209 := n10_; have NB209_0 := n11_; clear n0_ n1_ n2_ n3_ n4_ n5_ n6_ n7_ n8_ n9_ n10_ n11_; clear hb hbox hg; have hnb10 := NB209_203.out; have hnc10 := NB203_209.out; have hnb11 := NB209_0.out; have hnc11 := NB0_209.out; have hcz12_0 : w9.cell? ⟨gb209, 0, none⟩ = some (.string (⟨#[]⟩ : ByteArray)) := (blk_cell BK209.out 0).trans rfl; have hcz12_1 : w9.cell? ⟨gb209, 1, none⟩ = some (.slice none 0 0) := (blk_cell BK209.out 1).trans rfl; have hfz12_0 := blk_frozen BK209.out 0; have hfz12_1 := blk_frozen BK209.out 1) | ((with_reducible refine gate_dst (N := 14) rfl ?_); refine Kd.R_lit Kd.string _ 9 ?hg (N := 14) ?hd (xs := ([(⟨#[98, 111, 100, 121]⟩ : ByteArray), (⟨#[99, 111, 108, 111, 114]⟩ : ByteArray), (⟨#[112, 114, 105, 99, 101]⟩ : ByteArray), (⟨#[116, 105, 116, 108, 101]⟩ : ByteArray)] : List ByteArray)) (inner := [.string (⟨#[98, 111, 100, 121]⟩ : ByteArray), .string (⟨#[99, 111, 108, 111, 114]⟩ : ByteArray), .string (⟨#[112, 114, 105, 99, 101]⟩ : ByteArray), .string (⟨#[116, 105, 116, 108, 101]⟩ : ByteArray)]) (ok := fun _ => True) (okp := fun _ => True) ?hr ?hp (fun _ hk => hk) trivial (Below.refl _ _) (Nat.le_refl _) u89_ ?_; (case hd => rfl); (case hg => rfl); (case hr => first | (go_simp; done) | (go_simp; rfl)); (case hp => exact (Reps.one (show Kd.M Kd.string _ _ _ (⟨#[98, 111, 100, 121]⟩ : ByteArray) [.string (⟨#[98, 111, 100, 121]⟩ : ByteArray)] from rfl) (Reps.one (show Kd.M Kd.string _ _ _ (⟨#[99, 111, 108, 111, 114]⟩ : ByteArray) [.string (⟨#[99, 111, 108, 111, 114]⟩ : ByteArray)] from rfl) (Reps.one (show Kd.M Kd.string _ _ _ (⟨#[112, 114, 105, 99, 101]⟩ : ByteArray) [.string (⟨#[112, 114, 105, 99, 101]⟩ : ByteArray)] from rfl) (Reps.one (show Kd.M Kd.string _ _ _ (⟨#[116, 105, 116, 108, 101]⟩ : ByteArray) [.string (⟨#[116, 105, 116, 108, 101]⟩ : ByteArray)] from rfl) (Reps.none _ _)))))); intro v211 w13 ho14 hb hg_ hnew_; clear hg_ hnew_; (first | rw [← Ny210.out] at ho14 | (simp only [Int.reduceToNat] at ho14; rw [← Ny210.out] at ho14)); have n0_ := Aside0.mk (Kd.R_elder' u140_ (Kd.R_base ho14) hb); have n1_ := Aside0.mk (Kd.R_lower (Kd.R_new' ho14 (Kd.R_lt u140_)) (keep_size (w := w) (g := g) (row := none) u5_)); have n2_ := Aside0.mk (IsS106.below (show IsS106 w0 ((w9.setCell ⟨gb209, 0, none⟩ (.string t207)).setCell ⟨gb209, 1, none⟩ (.slice none 0 0)) g s0_0 t208 from by repeat (first | (with_reducible first | exact HI0.out | apply IsS106.alloc | apply IsS106.drewN | apply IsS106.drew | apply IsS106.set_1 | refine IsS106.far ?_ NB0_203.out _ | refine IsS106.far ?_ NB0_209.out _) | exact HI0.out)) hb); have n3_ := Aside0.mk (blk_below (g := gb203) (o := .cells #[.string (⟨#[]⟩ : ByteArray), .slice none 0 0] 37 (0, 0)) (by (with_reducible repeat (first | refine blk_drewN ?_ _ | refine blk_drew ?_ | refine blk_alloc ?_ _)); refine blk_far ?_ NB203_209.out _; (with_reducible repeat (first | refine blk_drewN ?_ _ | refine blk_drew ?_ | refine blk_alloc ?_ _)); refine blk_far ?_ NB203_209.out _; (with_reducible repeat (first | refine blk_drewN ?_ _ | refine blk_drew ?_ | refine blk_alloc ?_ _)); exact BK203.out) hb); have n4_ := Aside0.mk (blk_below (g := gb209) (o := .cells #[.string t207, .slice none 0 0] 37 (0, 0)) (by (with_reducible repeat (first | refine blk_drewN ?_ _ | refine blk_drew ?_ | refine blk_alloc ?_ _)); refine blk_put (cs := #[.string t207, .slice none 0 0]) ?_ 1 _ rfl; (with_reducible repeat (first | refine blk_drewN ?_ _ | refine blk_drew ?_ | refine blk_alloc ?_ _)); refine blk_put (cs := #[.string (⟨#[]⟩ : ByteArray), .slice none 0 0]) ?_ 0 _ rfl; (with_reducible repeat (first | refine blk_drewN ?_ _ | refine blk_drew ?_ | refine blk_alloc ?_ _)); exact BK209.out) hb); have n5_ := Aside0.mk (KeepBut.trans u5_ (KeepBut.of_below hb g none) (.inl rfl)); have n6_ := Aside0.mk (below_step u25_ hb); clear HO206; clear HI0; clear BK203; clear BK209; clear HK; clear HB; have HO206 := n0_; have HO212 := n1_; have HI0 := n2_; have BK203 := n3_; have BK209 := n4_; have HK := n5_; have HB := n6_; clear n0_ n1_ n2_ n3_ n4_ n5_ n6_; clear hb ho14))
 go_loopg [7] k (fun kq v7 w' => ∃ (x7_1 : Int) (x1001_1 : Int) (x210001_1 : List (S74)) (u210001 : Value), v7 = .int .i64 x7_1 ∧ Aside0 (spec_l11Doc.l0 kq l1 y210 x7_1 s0_0 x1001_1 t207 x210001_1 = some (r1, r2, r3)) ∧ Aside0 (kq ≤ k) ∧ Aside0 (Kd.R Kd.string 9 w' w.heap.size (fun _ => True) v211 y210) ∧ Aside0 (Kd.R k74 74 w' w.heap.size (fun _ => True) u210001 x210001_1) ∧ Aside0 (w'.heap[gb203]? = some (.cells #[.string (⟨#[]⟩ : ByteArray), (.slice none 0 0)] 37 (0, 0))) ∧ Aside0 (w'.heap[gb209]? = some (.cells #[.string t207, u210001] 37 (0, 0))) ∧ Aside0 (IsS106 w0 w' g s0_0 x1001_1) ∧ Aside0 (KeepBut w w' g none) ∧ Aside0 (Below w0.heap.size w0 w'))
 case atStart => exact ⟨(0), (t208), (([] : List (S74))), (.slice none 0 0), u22_, H', ⟨Nat.le_refl _⟩, ⟨by (with_reducible repeat (first | apply Kd.R_alloc | apply Kd.R_drewN | apply Kd.R_drew)); exact Kd.R_mono HO212.out (fun _ hk => trivial)⟩, ⟨u69_⟩, ⟨u12_⟩, ⟨u18_⟩, ⟨u29_⟩, ⟨u5_⟩, ⟨u25_⟩⟩
 case round =>
  clear H'
  try clear c1
  try clear p2
  try clear c6
  try clear c7
  try clear c10
  try clear c11
  try clear hcz12_0
  try clear hcz12_1
  try clear hfz12_0
  try clear hfz12_1
  obtain ⟨x7_1, x1001_1, x210001_1, u210001, rfl, HA, HK1, HO_6, HO_210001, BK203, BK209, HI0, HK, HB⟩ := hrel
  cases gk with
  | zero => exact absurd HA.out (by simp [spec_l11Doc.l0])
  | succ k1 =>
   have H := HA.out
   clear HA
   simp only [spec_l11Doc.l0] at H
   by_cases c15 : x7_1 < (y210.length : Int)
   ·rw [if_pos c15] at H
    have c15b0 : decide (x7_1 < (y210.length : Int)) = true := decide_eq_true c15
    clear c15
    by_cases c16 : 0 ≤ x7_1
    ·rw [if_pos c16] at H
     have c16b0 : decide (0 ≤ x7_1) = true := decide_eq_true c16
     clear c16
     replace H := Option.bind_eq_some_iff.mp H
     obtain ⟨t214, A170, H⟩ := H
     replace H : (if t214 < 0 then (spec_l11Doc.j1 k1 l1 y210 x7_1 t214 true s0_0 x1001_1 t207 x210001_1) else ((spec_l1Rd_pick.f k1 s0_0 x1001_1 4).bind fun bt215 => (spec_l11Doc.j1 k1 l1 y210 x7_1 t214 (bt215.1 == 0) s0_0 bt215.2 t207 x210001_1))) = some (r1, r2, r3) := H
     have A17 := Aside0.mk A170
     clear A170
     have HC18 := Aside0.mk H
     clear H
     obtain ⟨Ao19, co19, eo19⟩ := Kd.R_slice HO_6.out
     subst eo19
     have p213 : 0 ≤ (x7_1 : Int) := of_decide_eq_true u1_
     have q213 : x7_1 < (y210.length : Int) := of_decide_eq_true u1_
     obtain ⟨ad213, e213, hx213_0⟩ := Kd.at_string (Kd.R_reads' HO_6.out).2.2 x7_1 p213 q213
     cases e213
     replace p213 := eq_true p213
     replace q213 := eq_true q213
     go_upto_region 7 with (first | ((with_reducible refine gate_callee (f := 48) rfl ?_); refine goesL_ (some 26) rfl rfl Tryd.func48 u17_ rfl #[.slice A1 l1.length c1, .string (rdOf ByteArray.empty y210 x7_1)] rfl u0_ ?_; (with_reducible refine (spec_l2Field.calls k1 _ _ l1 (rdOf ByteArray.empty y210 x7_1) t214 _ ?side1 ?side2 A17.out).mono ?_); (case side1 => exact Kd.C_foot_now HR1.out u5_); (case side2 => exact HC1.out); rintro e w' ⟨rfl, ⟨nd, rfl⟩⟩; refine ⟨_, rfl, ?_⟩))
     (try simp only [Act.put, List.setIfInBounds_toArray, List.set_cons_zero, List.set_cons_succ])
     go_cut [33] (fun v33 wc => ∃ (kq : Nat) (x33_17 : Bool) (x1001_17 : Int), v33 = .bool x33_17 ∧ Aside0 (spec_l11Doc.j1 kq l1 y210 x7_1 t214 x33_17 s0_0 x1001_17 t207 x210001_1 = some (r1, r2, r3)) ∧ Aside0 (kq ≤ k1) ∧ Aside0 (Kd.R Kd.string 9 wc w.heap.size (fun _ => True) (.slice (some ad213) y210.length co19) y210) ∧ Aside0 (Kd.R k74 74 wc w.heap.size (fun _ => True) u210001 x210001_1) ∧ Aside0 (wc.heap[gb203]? = some (.cells #[.string (⟨#[]⟩ : ByteArray), (.slice none 0 0)] 37 (0, 0))) ∧ Aside0 (wc.heap[gb209]? = some (.cells #[.string t207, u210001] 37 (0, 0))) ∧ Aside0 (IsS106 w0 wc g s0_0 x1001_17) ∧ Aside0 (KeepBut w wc g none) ∧ Aside0 (Below w0.heap.size w0 wc))
     case first =>
      have H := HC18.out
      clear HC18
      by_cases c20 : t214 < 0
      ·rw [if_pos c20] at H
       have c20b0 : decide (t214 < 0) = true := decide_eq_true c20
       clear c20
       (first | rw [c20b0] | (simp only [i64_w, i32_w]; rw [c20b0]) | skip)
       have H' := Aside0.mk H
       clear H
       go_wp2
       go_meet
       case rel => exact ⟨_, (true), (x1001_1), u22_, H', ⟨by have := HK1.out; first | omega | exact Nat.le_refl _⟩, ⟨u27_⟩, ⟨u37_⟩, ⟨u12_⟩, ⟨u18_⟩, ⟨u29_⟩, ⟨u5_⟩, ⟨u25_⟩⟩
      ·rw [if_neg c20] at H
       have c20b0 : decide (t214 < 0) = false := decide_eq_false c20
       clear c20
       (first | rw [c20b0] | (simp only [i64_w, i32_w]; rw [c20b0]) | skip)
       replace H := Option.bind_eq_some_iff.mp H
       obtain ⟨⟨t215, t216⟩, A210, H⟩ := H
       replace H : (spec_l11Doc.j1 k1 l1 y210 x7_1 t214 (t215 == 0) s0_0 t216 t207 x210001_1) = some (r1, r2, r3) := H
       have A21 := Aside0.mk A210
       clear A210
       have H' := Aside0.mk H
       clear H
       go_wp2_with (first | (go_at_call 77; (with_reducible refine (spec_l1Rd_pick.calls k1 g s0_0 x1001_1 4 t215 t216 w0 _ ?side1 ?side2 A21.out).mono ?_); (case side1 => repeat (first | (with_reducible first | exact HI0.out | apply IsS106.alloc | apply IsS106.drewN | apply IsS106.drew | apply IsS106.set_1 | refine IsS106.far ?_ NB0_203.out _ | refine IsS106.far ?_ NB0_209.out _) | exact HI0.out)); (case side2 => repeat (first | (with_reducible first | exact HB.out | apply below_alloc | apply pw_below_drewN | apply below_drew1 | refine below_set ?_ (IsS106.ge HI0.out) | refine below_set ?_ GE203.out | refine below_set ?_ GE209.out) | exact HB.out)); rintro e w22 ⟨rfl, hi, hb, hk⟩; have n0_ := Aside0.mk (Kd.R_mono (Kd.R_keep (IsS106.apart (show IsS106 w0 _ g s0_0 x1001_1 from by repeat (first | (with_reducible first | exact HI0.out | apply IsS106.alloc | apply IsS106.drewN | apply IsS106.drew | apply IsS106.set_1 | refine IsS106.far ?_ NB0_203.out _ | refine IsS106.far ?_ NB0_209.out _) | exact HI0.out)) u27_ u39_) hk (fun _ h => h.2)) (fun _ h => h.1)); have n1_ := Aside0.mk (Kd.R_mono (Kd.R_keep (IsS106.apart (show IsS106 w0 _ g s0_0 x1001_1 from by repeat (first | (with_reducible first | exact HI0.out | apply IsS106.alloc | apply IsS106.drewN | apply IsS106.drew | apply IsS106.set_1 | refine IsS106.far ?_ NB0_203.out _ | refine IsS106.far ?_ NB0_209.out _) | exact HI0.out)) u37_ u39_) hk (fun _ h => h.2)) (fun _ h => h.1)); have n2_ := Aside0.mk (KeepBut.blk hk (g' := gb203) (o := .cells #[.string (⟨#[]⟩ : ByteArray), .slice none 0 0] 37 (0, 0)) u12_ NB203_0.out u89_); have n3_ := Aside0.mk (KeepBut.blk hk (g' := gb209) (o := .cells #[.string t207, u210001] 37 (0, 0)) u18_ NB209_0.out u89_); have n4_ := Aside0.mk (KeepBut.trans u5_ hk (.inl rfl)); have n5_ := Aside0.mk (hb); have n6_ := Aside0.mk (hi); clear HO_6; clear HO_210001; clear BK203; clear BK209; clear HK; clear HB; clear HI0; have HO_6 := n0_; have HO_210001 := n1_; have BK203 := n2_; have BK209 := n3_; have HK := n4_; have HB := n5_; have HI0 := n6_; clear n0_ n1_ n2_ n3_ n4_ n5_ n6_; (try clear hb); (try clear hb2); (try clear hk); (try clear hi)))
       go_meet
       case rel => exact ⟨_, ((t215 == 0)), (t216), u22_, H', ⟨by have := HK1.out; first | omega | exact Nat.le_refl _⟩, ⟨u27_⟩, ⟨u37_⟩, ⟨u12_⟩, ⟨u18_⟩, ⟨u29_⟩, ⟨u5_⟩, ⟨u25_⟩⟩
     case rest =>
      clear HC18
      try clear c1
      try clear c2
      try clear p2
      try clear q2
      try clear hx2
      try clear c4
      try clear c6
      try clear c7
      try clear c10
      try clear c11
      try clear c15
      try clear c15b0
      try clear c16
      try clear c16b0
      try clear c20
      try clear c20b0
      try clear p21
      try clear q21
      try clear hx21
      try clear hcz12_0
      try clear hcz12_1
      try clear hfz12_0
      try clear hfz12_1
      try clear hx213_0
      try clear p2
      try clear p213
      try clear q213
      obtain ⟨kq, x33_17, x1001_17, rfl, HA, HJ17, HO_6, HO_210001, BK203, BK209, HI0, HK, HB⟩ := hcut
      cases kq with
      | zero => exact absurd HA.out (by simp [spec_l11Doc.j1])
      | succ kj17 =>
       have H := HA.out
       clear HA
       simp only [spec_l11Doc.j1] at H
       by_cases c23 : x33_17 = true
       ·subst c23
        have H1 : (spec_l11Doc.l0 kj17 l1 y210 (wrap64 (x7_1 + 1)) s0_0 x1001_17 t207 x210001_1) = some (r1, r2, r3) := by rw [if_pos rfl] at H; exact H
        clear H
        have H := H1
        clear H1
        have H' := Aside0.mk H
        clear H
        go_wp2
        go_roundg kj17
        case measure => have := HK1.out; have := HJ17.out; omega
        case rel => exact ⟨(wrap64 (x7_1 + 1)), (x1001_17), (x210001_1), (u210001), u22_, H', ⟨by have := HK1.out; have := HJ17.out; omega⟩, ⟨u27_⟩, ⟨u37_⟩, ⟨u12_⟩, ⟨u18_⟩, ⟨u29_⟩, ⟨u5_⟩, ⟨u25_⟩⟩
       ·replace c23 := Bool.eq_false_iff.mpr c23
        subst c23
        have H1 : (if 0 ≤ x7_1 then (if x7_1 < (y210.length : Int) then ((spec_l11Text.f kj17 s0_0 x1001_17).bind fun bt218 => (if 0 ≤ t214 then (if t214 < (l1.length : Int) then (if ((rd_T32 l1 t214).f1) = 2 then ((spec_l1Rd_of.f kj17 s0_0 bt218.2 (([(⟨#[48]⟩ : ByteArray), (⟨#[53]⟩ : ByteArray), (⟨#[55]⟩ : ByteArray), (⟨#[45, 51]⟩ : ByteArray), (⟨#[49, 50]⟩ : ByteArray), (⟨#[57, 57, 57, 57, 57, 57, 57, 57, 57]⟩ : ByteArray)] : List ByteArray))).bind fun bt225 => (if x210001_1.length < 4398046511104 then (spec_l11Doc.l0 kj17 l1 y210 (wrap64 (x7_1 + 1)) s0_0 bt225.2 t207 (x210001_1 ++ [(⟨rdOf ByteArray.empty y210 x7_1, bt225.1⟩ : S74)])) else (none))) else (if ((rd_T32 l1 t214).f1) = 3 then ((spec_l1Rd_of.f kj17 s0_0 bt218.2 (([(⟨#[114, 101, 100]⟩ : ByteArray), (⟨#[98, 108, 117, 101]⟩ : ByteArray), (⟨#[114, 101, 100, 44, 98, 108, 117, 101]⟩ : ByteArray), (⟨#[98, 108, 117, 101, 44, 114, 101, 100, 44, 114, 101, 100]⟩ : ByteArray), (⟨#[103, 114, 101, 101, 110]⟩ : ByteArray)] : List ByteArray))).bind fun bt233 => (if x210001_1.length < 4398046511104 then (spec_l11Doc.l0 kj17 l1 y210 (wrap64 (x7_1 + 1)) s0_0 bt233.2 t207 (x210001_1 ++ [(⟨rdOf ByteArray.empty y210 x7_1, bt233.1⟩ : S74)])) else (none))) else (if x210001_1.length < 4398046511104 then (spec_l11Doc.l0 kj17 l1 y210 (wrap64 (x7_1 + 1)) s0_0 bt218.2 t207 (x210001_1 ++ [(⟨rdOf ByteArray.empty y210 x7_1, bt218.1⟩ : S74)])) else (none)))) else (none)) else (none))) else (none)) else (none)) = some (r1, r2, r3) := by rw [if_neg (show ¬ (false = true) by decide)] at H; exact H
        clear H
        have H := H1
        clear H1
        by_cases c24 : 0 ≤ x7_1
        ·rw [if_pos c24] at H
         have c24b0 : decide (0 ≤ x7_1) = true := decide_eq_true c24
         clear c24
         by_cases c25 : x7_1 < (y210.length : Int)
         ·rw [if_pos c25] at H
          have c25b0 : decide (x7_1 < (y210.length : Int)) = true := decide_eq_true c25
          clear c25
          replace H := Option.bind_eq_some_iff.mp H
          obtain ⟨⟨t218, t219⟩, A260, H⟩ := H
          replace H : (if 0 ≤ t214 then (if t214 < (l1.length : Int) then (if ((rd_T32 l1 t214).f1) = 2 then ((spec_l1Rd_of.f kj17 s0_0 t219 (([(⟨#[48]⟩ : ByteArray), (⟨#[53]⟩ : ByteArray), (⟨#[55]⟩ : ByteArray), (⟨#[45, 51]⟩ : ByteArray), (⟨#[49, 50]⟩ : ByteArray), (⟨#[57, 57, 57, 57, 57, 57, 57, 57, 57]⟩ : ByteArray)] : List ByteArray))).bind fun bt225 => (if x210001_1.length < 4398046511104 then (spec_l11Doc.l0 kj17 l1 y210 (wrap64 (x7_1 + 1)) s0_0 bt225.2 t207 (x210001_1 ++ [(⟨rdOf ByteArray.empty y210 x7_1, bt225.1⟩ : S74)])) else (none))) else (if ((rd_T32 l1 t214).f1) = 3 then ((spec_l1Rd_of.f kj17 s0_0 t219 (([(⟨#[114, 101, 100]⟩ : ByteArray), (⟨#[98, 108, 117, 101]⟩ : ByteArray), (⟨#[114, 101, 100, 44, 98, 108, 117, 101]⟩ : ByteArray), (⟨#[98, 108, 117, 101, 44, 114, 101, 100, 44, 114, 101, 100]⟩ : ByteArray), (⟨#[103, 114, 101, 101, 110]⟩ : ByteArray)] : List ByteArray))).bind fun bt233 => (if x210001_1.length < 4398046511104 then (spec_l11Doc.l0 kj17 l1 y210 (wrap64 (x7_1 + 1)) s0_0 bt233.2 t207 (x210001_1 ++ [(⟨rdOf ByteArray.empty y210 x7_1, bt233.1⟩ : S74)])) else (none))) else (if x210001_1.length < 4398046511104 then (spec_l11Doc.l0 kj17 l1 y210 (wrap64 (x7_1 + 1)) s0_0 t219 t207 (x210001_1 ++ [(⟨rdOf ByteArray.empty y210 x7_1, t218⟩ : S74)])) else (none)))) else (none)) else (none)) = some (r1, r2, r3) := H
          have A26 := Aside0.mk A260
          clear A260
          by_cases c27 : 0 ≤ t214
          ·rw [if_pos c27] at H
           have c27b0 : decide (0 ≤ t214) = true := decide_eq_true c27
           clear c27
           by_cases c28 : t214 < (l1.length : Int)
           ·rw [if_pos c28] at H
            have c28b0 : decide (t214 < (l1.length : Int)) = true := decide_eq_true c28
            clear c28
            by_cases c29 : ((rd_T32 l1 t214).f1) = 2
            ·rw [if_pos c29] at H
             have c29b0 : (((rd_T32 l1 t214).f1) == 2) = true := beq_iff_eq.mpr c29
             have c29b1 : (((rd_T32 l1 t214).f1) != 2) = false := bne_eq_false_iff_eq.mpr c29
             clear c29
             obtain ⟨y222, hy222⟩ : ∃ y_ : List ByteArray, y_ = (([(⟨#[48]⟩ : ByteArray), (⟨#[53]⟩ : ByteArray), (⟨#[55]⟩ : ByteArray), (⟨#[45, 51]⟩ : ByteArray), (⟨#[49, 50]⟩ : ByteArray), (⟨#[57, 57, 57, 57, 57, 57, 57, 57, 57]⟩ : ByteArray)] : List ByteArray)) := ⟨_, rfl⟩
             replace H : ((spec_l1Rd_of.f kj17 s0_0 t219 y222).bind fun bt225 => (if x210001_1.length < 4398046511104 then (spec_l11Doc.l0 kj17 l1 y210 (wrap64 (x7_1 + 1)) s0_0 bt225.2 t207 (x210001_1 ++ [(⟨rdOf ByteArray.empty y210 x7_1, bt225.1⟩ : S74)])) else (none))) = some (r1, r2, r3) := by first | (rw [hy222]; with_reducible exact H) | (have H2_ := (Option.bind_some _ _).symm.trans H; rw [hy222]; with_reducible exact H2_) | (have H2_ := (Option.bind_some _ _).symm.trans H; with_reducible exact H2_) | with_reducible exact H | (rw [hy222]; exact H) | exact H
             have Ny222 := Aside0.mk hy222
             clear hy222
             replace H := Option.bind_eq_some_iff.mp H
             obtain ⟨⟨t225, t226⟩, A300, H⟩ := H
             replace H : (if x210001_1.length < 4398046511104 then (spec_l11Doc.l0 kj17 l1 y210 (wrap64 (x7_1 + 1)) s0_0 t226 t207 (x210001_1 ++ [(⟨rdOf ByteArray.empty y210 x7_1, t225⟩ : S74)])) else (none)) = some (r1, r2, r3) := H
             have A30 := Aside0.mk A300
             clear A300
             by_cases c31 : x210001_1.length < 4398046511104
             ·rw [if_pos c31] at H
              have LMc31 := Aside0.mk c31
              clear c31
              obtain ⟨y227, hy227⟩ : ∃ y_ : List (S74), y_ = (x210001_1 ++ [(⟨rdOf ByteArray.empty y210 x7_1, t225⟩ : S74)]) := ⟨_, rfl⟩
              replace H : (spec_l11Doc.l0 kj17 l1 y210 (wrap64 (x7_1 + 1)) s0_0 t226 t207 y227) = some (r1, r2, r3) := by first | (rw [hy227]; with_reducible exact H) | (have H2_ := (Option.bind_some _ _).symm.trans H; rw [hy227]; with_reducible exact H2_) | (have H2_ := (Option.bind_some _ _).symm.trans H; with_reducible exact H2_) | with_reducible exact H | (rw [hy227]; exact H) | exact H
              have Ny227 := Aside0.mk hy227
              clear hy227
              have H' := Aside0.mk H
              clear H
              try go_wp2
              have n0_ := Aside0.mk (Kd.R_drew HO_6.out)
              have n1_ := Aside0.mk (Kd.R_drew HO_210001.out)
              have n2_ := Aside0.mk (blk_drew BK203.out)
              have n3_ := Aside0.mk (blk_drew BK209.out)
              have n4_ := Aside0.mk (IsS106.drew HI0.out)
              have n5_ := Aside0.mk (keep_drew HK.out)
              have n6_ := Aside0.mk (below_drew1 HB.out)
              clear HO_6
              clear HO_210001
              clear BK203
              clear BK209
              clear HI0
              clear HK
              clear HB
              have HO_6 := n0_
              have HO_210001 := n1_
              have BK203 := n2_
              have BK209 := n3_
              have HI0 := n4_
              have HK := n5_
              have HB := n6_
              clear n0_ n1_ n2_ n3_ n4_ n5_ n6_
              have p217 : 0 ≤ (x7_1 : Int) := of_decide_eq_true u1_
              have q217 : x7_1 < (y210.length : Int) := of_decide_eq_true u1_
              obtain ⟨ad217, e217, hx217_0⟩ := Kd.at_string (Kd.R_reads' HO_6.out).2.2 x7_1 p217 q217
              obtain rfl : ad213 = ad217 := (by injection e217)
              replace p217 := eq_true p217
              replace q217 := eq_true q217
              refine start_ (n := 9) (S := fun w' => w'.cell? (ad213.add (x7_1).toNat) = some (.string (rdOf ByteArray.empty y210 x7_1))) (ds := []) #[false, false, false, false, false, false, false, false, false] u17_ rfl rfl (hx217_0) (fun hHeld => ?_); refine with_tabW spec_l11Doc.tab8 spec_l11Doc.bits8 (fun HT_ HW_ => ?_)
              generalize wc.drew = w32 at HO_6 HO_210001 BK203 BK209 HI0 HK HB hx217_0 hHeld ⊢
              refine pure_ (i := 0) (N := some 34) (v := ?_) (a' := ?_) #[true, false, false, false, false, false, false, false, false] rfl rfl (any_of HT_.out u17_) (fun _ _ _ h => h) (Or.inl ⟨u67_, ?_⟩) ?_ ?_
              rotate_left
              ·intro w'
               go_simp
               with_reducible rfl
              rotate_left
              ·simp only [Act.put, List.setIfInBounds_toArray, List.set_cons_zero, List.set_cons_succ, i64_w, i32_w]
               rfl
              refine pure_ (i := 1) (N := some 35) (v := ?_) (a' := ?_) #[true, true, false, false, false, false, false, false, false] rfl rfl (any_of HT_.out u17_) (fun _ _ _ h => h) (Or.inl ⟨u67_, ?_⟩) ?_ ?_
              rotate_left
              ·intro w'
               go_simp
               with_reducible rfl
              rotate_left
              ·simp only [Act.put, List.setIfInBounds_toArray, List.set_cons_zero, List.set_cons_succ, i64_w, i32_w]
               rfl
              refine pure_ (i := 2) (N := some 36) (v := ?_) (a' := ?_) #[true, true, true, false, false, false, false, false, false] rfl rfl (any_of HT_.out u17_) (fun _ _ _ h => h) (Or.inl ⟨u67_, ?_⟩) ?_ ?_
              rotate_left
              ·intro w'
               go_simp
               with_reducible rfl
              rotate_left
              ·simp only [Act.put, List.setIfInBounds_toArray, List.set_cons_zero, List.set_cons_succ, i64_w, i32_w]
               rfl
              refine pure_ (i := 4) (N := some 38) (v := ?_) (a' := ?_) #[true, true, true, false, true, false, false, false, false] rfl rfl (any_of HT_.out u17_) (fun _ _ _ h => h) (Or.inl ⟨u67_, ?_⟩) ?_ ?_
              rotate_left
              ·intro w'
               go_simp
               with_reducible rfl
              rotate_left
              ·simp only [Act.put, List.setIfInBounds_toArray, List.set_cons_zero, List.set_cons_succ, i64_w, i32_w]
               rfl
              refine take_ (i := 3) (N := some 37) (v := ?_) (a' := ?_) #[true, true, true, true, true, false, false, false, false] rfl rfl (take_ofW HT_.out HW_.out u17_) (fun _ _ _ h => h) (Or.inl ⟨u67_, ?_⟩) hHeld ?_ ?_
              rotate_left
              ·intro w' s0
               go_simp
               with_reducible rfl
              rotate_left
              ·simp only [Act.put, List.setIfInBounds_toArray, List.set_cons_zero, List.set_cons_succ, i64_w, i32_w]
               rfl
              refine join_ (σ := Nat) 1 #[true, true, true, true, true, true, true, true, false] (fun s_ => [(39, .string t218), (9, .pointer (some ⟨s_, 0, none⟩)), (40, .agg #[.string (rdOf ByteArray.empty y210 x7_1), .string t218])]) (fun s_ w' => (w'.cell? (ad213.add (x7_1).toNat) = some (.string (rdOf ByteArray.empty y210 x7_1))) ∧ (Kd.R k74 74 w' w.heap.size (fun k_ => k_ ≠ s_) u210001 x210001_1) ∧ (Kd.R Kd.string 9 w' w.heap.size (fun _ => True) (.slice (some ad213) y210.length co19) y210) ∧ (w'.heap[gb203]? = some (.cells #[.string (⟨#[]⟩ : ByteArray), .slice none 0 0] 37 (0, 0))) ∧ (w'.heap[gb209]? = some (.cells #[.string t207, u210001] 37 (0, 0))) ∧ (w'.heap[s_]? = some (.cells #[.string (⟨#[]⟩ : ByteArray), .string (⟨#[]⟩ : ByteArray)] 74 (0, 0))) ∧ (w.heap.size ≤ s_) ∧ (w0.heap.size ≤ s_) ∧ (g ≠ s_) ∧ (s_ ≠ g) ∧ (gb203 ≠ s_) ∧ (s_ ≠ gb203) ∧ (gb209 ≠ s_) ∧ (s_ ≠ gb209) ∧ (IsS106 w0 w' g s0_0 t219) ∧ (KeepBut w w' g none) ∧ (Below w0.heap.size w0 w')) ?_ ?_
              rotate_left
              ·intro hCont
               refine two_ (i := 5) (j := 7) (Ni := some 39) (Nj := some 9) #[true, true, true, true, true, true, false, false, false] #[true, true, true, true, true, false, false, true, false] rfl rfl rfl rfl (two_of HT_.out u17_) u39_ u39_ (fun K hK => ?_) (fun K hK => ?_)
               ·skip
                refine goes_ Tryd.func90 u17_ rfl #[.pointer (some ⟨g, 0, none⟩)] u67_ rfl rfl u0_ ?_
                with_reducible refine (spec_l11Text.calls kj17 g s0_0 x1001_17 t218 t219 w0 _ ?side1 ?side2 A26.out).mono ?_
                (case side1 => repeat (first | (with_reducible first | exact HI0.out | apply IsS106.alloc | apply IsS106.drewN | apply IsS106.drew | apply IsS106.set_1 | refine IsS106.far ?_ NB0_203.out _ | refine IsS106.far ?_ NB0_209.out _) | exact HI0.out))
                (case side2 => repeat (first | (with_reducible first | exact HB.out | apply below_alloc | apply pw_below_drewN | apply below_drew1 | refine below_set ?_ (IsS106.ge HI0.out) | refine below_set ?_ GE203.out | refine below_set ?_ GE209.out) | exact HB.out))
                rintro e w33 ⟨rfl, hi, hb, hk⟩
                have HS0_ := keep_cell hk (hHeld) u119_
                refine ⟨_, rfl, ?_⟩
                have n0_ := Aside0.mk (Kd.R_mono (Kd.R_keep (IsS106.apart (show IsS106 w0 _ g s0_0 x1001_17 from by repeat (first | (with_reducible first | exact HI0.out | apply IsS106.alloc | apply IsS106.drewN | apply IsS106.drew | apply IsS106.set_1 | refine IsS106.far ?_ NB0_203.out _ | refine IsS106.far ?_ NB0_209.out _) | exact HI0.out)) u27_ u39_) hk (fun _ h => h.2)) (fun _ h => h.1))
                have n1_ := Aside0.mk (Kd.R_mono (Kd.R_keep (IsS106.apart (show IsS106 w0 _ g s0_0 x1001_17 from by repeat (first | (with_reducible first | exact HI0.out | apply IsS106.alloc | apply IsS106.drewN | apply IsS106.drew | apply IsS106.set_1 | refine IsS106.far ?_ NB0_203.out _ | refine IsS106.far ?_ NB0_209.out _) | exact HI0.out)) u37_ u39_) hk (fun _ h => h.2)) (fun _ h => h.1))
                have n2_ := Aside0.mk (KeepBut.blk hk (g' := gb203) (o := .cells #[.string (⟨#[]⟩ : ByteArray), .slice none 0 0] 37 (0, 0)) u12_ NB203_0.out u89_)
                have n3_ := Aside0.mk (KeepBut.blk hk (g' := gb209) (o := .cells #[.string t207, u210001] 37 (0, 0)) u18_ NB209_0.out u89_)
                have n4_ := Aside0.mk (KeepBut.trans u5_ hk (.inl rfl))
                have n5_ := Aside0.mk (hb)
                have n6_ := Aside0.mk (hi)
                clear HO_6
                clear HO_210001
                clear BK203
                clear BK209
                clear HK
                clear HB
                clear HI0
                have HO_6 := n0_
                have HO_210001 := n1_
                have BK203 := n2_
                have BK209 := n3_
                have HK := n4_
                have HB := n5_
                have HI0 := n6_
                clear n0_ n1_ n2_ n3_ n4_ n5_ n6_
                (try clear hb)
                (try clear hb2)
                (try clear hk)
                (try clear hi)
                refine hK.out _ _ (HS0_) (fun hHeld => ?_)
                clear hK K
                refine norm_ (a' := ?_) ?_ ?_
                rotate_left
                ·show Act.put _ (some 39) _ = _
                 simp only [Act.put, List.setIfInBounds_toArray, List.set_cons_zero, List.set_cons_succ, i64_w, i32_w]
                 rfl
                refine pure_ (i := 6) (N := some 40) (v := ?_) (a' := ?_) #[true, true, true, true, true, true, true, false, false] rfl rfl (any_of HT_.out u17_) (fun _ _ _ h => h) (Or.inl ⟨u67_, ?_⟩) ?_ ?_
                rotate_left
                ·intro w'
                 go_simp
                 with_reducible rfl
                rotate_left
                ·simp only [Act.put, List.setIfInBounds_toArray, List.set_cons_zero, List.set_cons_succ, i64_w, i32_w]
                 rfl
                refine one_ (i := 7) (N := some 9) #[true, true, true, true, true, true, true, true, false] rfl rfl (one_of HT_.out u17_) u39_ (fun K hK => ?_)
                refine box_step ?hg (N := 9) ?hd (cs := #[.string (⟨#[]⟩ : ByteArray), .string (⟨#[]⟩ : ByteArray)]) (t := 74) ?hr ?_; (case hd => rfl); (case hg => rfl); (case hr => first | (go_simp; done) | (go_simp; rfl))
                intro gb220 hg w34 hbox hb
                have HS0_ := (hb.cell (World.block_lt_of_cell? _ _ (hHeld))).trans (hHeld)
                have n0_ := Aside0.mk (Kd.R_below u27_ hb)
                have n1_ := Aside0.mk (Kd.R_below (Kd.R_elderB u37_ gb220 (Nat.le_of_eq hg.symm)) hb)
                have n2_ := Aside0.mk (blk_below (g := gb203) (o := .cells #[.string (⟨#[]⟩ : ByteArray), .slice none 0 0] 37 (0, 0)) u12_ hb)
                have n3_ := Aside0.mk (blk_below (g := gb209) (o := .cells #[.string t207, u210001] 37 (0, 0)) u18_ hb)
                have n4_ := Aside0.mk (IsS106.below u29_ hb)
                have n5_ := Aside0.mk (KeepBut.trans u5_ (KeepBut.of_below hb g none) (.inl rfl))
                have n6_ := Aside0.mk (below_step u25_ hb)
                have n7_ := Aside0.mk (hbox)
                have n8_ := Aside0.mk ((by rw [hg]; exact (keep_size (w := w) (g := g) (row := none) u5_) : w.heap.size ≤ gb220))
                have n9_ := Aside0.mk ((Nat.le_trans HW0.out (by rw [hg]; exact (keep_size (w := w) (g := g) (row := none) u5_) : w.heap.size ≤ gb220) : w0.heap.size ≤ gb220))
                have n10_ := Aside0.mk ((by rw [hg]; exact Nat.ne_of_lt (blk_lt (g := gb203) (o := .cells #[.string (⟨#[]⟩ : ByteArray), .slice none 0 0] 37 (0, 0)) u12_) : gb203 ≠ gb220))
                have n11_ := Aside0.mk ((by rw [hg]; exact Nat.ne_of_gt (blk_lt (g := gb203) (o := .cells #[.string (⟨#[]⟩ : ByteArray), .slice none 0 0] 37 (0, 0)) u12_) : gb220 ≠ gb203))
                have n12_ := Aside0.mk ((by rw [hg]; exact Nat.ne_of_lt (blk_lt (g := gb209) (o := .cells #[.string t207, u210001] 37 (0, 0)) u18_) : gb209 ≠ gb220))
                have n13_ := Aside0.mk ((by rw [hg]; exact Nat.ne_of_gt (blk_lt (g := gb209) (o := .cells #[.string t207, u210001] 37 (0, 0)) u18_) : gb220 ≠ gb209))
                have n14_ := Aside0.mk ((by rw [hg]; exact Nat.ne_of_lt (IsS106.lt (show IsS106 w0 _ g s0_0 t219 from by repeat (first | (with_reducible first | exact HI0.out | apply IsS106.alloc | apply IsS106.drewN | apply IsS106.drew | apply IsS106.set_1 | refine IsS106.far ?_ NB0_203.out _ | refine IsS106.far ?_ NB0_209.out _) | exact HI0.out))) : g ≠ gb220))
                have n15_ := Aside0.mk ((by rw [hg]; exact Nat.ne_of_gt (IsS106.lt (show IsS106 w0 _ g s0_0 t219 from by repeat (first | (with_reducible first | exact HI0.out | apply IsS106.alloc | apply IsS106.drewN | apply IsS106.drew | apply IsS106.set_1 | refine IsS106.far ?_ NB0_203.out _ | refine IsS106.far ?_ NB0_209.out _) | exact HI0.out))) : gb220 ≠ g))
                clear HO_6
                clear HO_210001
                clear BK203
                clear BK209
                clear HI0
                clear HK
                clear HB
                have HO_6 := n0_
                have HO_210001 := n1_
                have BK203 := n2_
                have BK209 := n3_
                have HI0 := n4_
                have HK := n5_
                have HB := n6_
                have BK220 := n7_
                have GW220 := n8_
                have GE220 := n9_
                have NB203_220 := n10_
                have NB220_203 := n11_
                have NB209_220 := n12_
                have NB220_209 := n13_
                have NB0_220 := n14_
                have NB220_0 := n15_
                clear n0_ n1_ n2_ n3_ n4_ n5_ n6_ n7_ n8_ n9_ n10_ n11_ n12_ n13_ n14_ n15_
                clear hb hbox hg
                refine hK.out _ _ (HS0_) (fun hHeld => ?_)
                clear hK K
                refine norm_ (a' := ?_) ?_ ?_
                rotate_left
                ·show Act.put _ (some 9) _ = _
                 simp only [Act.put, List.setIfInBounds_toArray, List.set_cons_zero, List.set_cons_succ, i64_w, i32_w]
                 rfl
                exact norm_ u84_ (hCont (gb220) _ ⟨hHeld, u83_, u27_, u12_, u18_, u56_, GW220.out, GE220.out, NB0_220.out, NB220_0.out, NB203_220.out, NB220_203.out, NB209_220.out, NB220_209.out, u33_, u9_, u21_⟩)
               ·skip
                refine box_step ?hg (N := 9) ?hd (cs := #[.string (⟨#[]⟩ : ByteArray), .string (⟨#[]⟩ : ByteArray)]) (t := 74) ?hr ?_; (case hd => rfl); (case hg => rfl); (case hr => first | (go_simp; done) | (go_simp; rfl))
                intro gb220 hg w33 hbox hb
                have HS0_ := (hb.cell (World.block_lt_of_cell? _ _ (hHeld))).trans (hHeld)
                have n0_ := Aside0.mk (Kd.R_below u27_ hb)
                have n1_ := Aside0.mk (Kd.R_below (Kd.R_elderB u37_ gb220 (Nat.le_of_eq hg.symm)) hb)
                have n2_ := Aside0.mk (blk_below (g := gb203) (o := .cells #[.string (⟨#[]⟩ : ByteArray), .slice none 0 0] 37 (0, 0)) u12_ hb)
                have n3_ := Aside0.mk (blk_below (g := gb209) (o := .cells #[.string t207, u210001] 37 (0, 0)) u18_ hb)
                have n4_ := Aside0.mk (IsS106.below u29_ hb)
                have n5_ := Aside0.mk (KeepBut.trans u5_ (KeepBut.of_below hb g none) (.inl rfl))
                have n6_ := Aside0.mk (below_step u25_ hb)
                have n7_ := Aside0.mk (hbox)
                have n8_ := Aside0.mk ((by rw [hg]; exact (keep_size (w := w) (g := g) (row := none) u5_) : w.heap.size ≤ gb220))
                have n9_ := Aside0.mk ((Nat.le_trans HW0.out (by rw [hg]; exact (keep_size (w := w) (g := g) (row := none) u5_) : w.heap.size ≤ gb220) : w0.heap.size ≤ gb220))
                have n10_ := Aside0.mk ((by rw [hg]; exact Nat.ne_of_lt (blk_lt (g := gb203) (o := .cells #[.string (⟨#[]⟩ : ByteArray), .slice none 0 0] 37 (0, 0)) u12_) : gb203 ≠ gb220))
                have n11_ := Aside0.mk ((by rw [hg]; exact Nat.ne_of_gt (blk_lt (g := gb203) (o := .cells #[.string (⟨#[]⟩ : ByteArray), .slice none 0 0] 37 (0, 0)) u12_) : gb220 ≠ gb203))
                have n12_ := Aside0.mk ((by rw [hg]; exact Nat.ne_of_lt (blk_lt (g := gb209) (o := .cells #[.string t207, u210001] 37 (0, 0)) u18_) : gb209 ≠ gb220))
                have n13_ := Aside0.mk ((by rw [hg]; exact Nat.ne_of_gt (blk_lt (g := gb209) (o := .cells #[.string t207, u210001] 37 (0, 0)) u18_) : gb220 ≠ gb209))
                have n14_ := Aside0.mk ((by rw [hg]; exact Nat.ne_of_lt (IsS106.lt (show IsS106 w0 _ g s0_0 x1001_17 from by repeat (first | (with_reducible first | exact HI0.out | apply IsS106.alloc | apply IsS106.drewN | apply IsS106.drew | apply IsS106.set_1 | refine IsS106.far ?_ NB0_203.out _ | refine IsS106.far ?_ NB0_209.out _) | exact HI0.out))) : g ≠ gb220))
                have n15_ := Aside0.mk ((by rw [hg]; exact Nat.ne_of_gt (IsS106.lt (show IsS106 w0 _ g s0_0 x1001_17 from by repeat (first | (with_reducible first | exact HI0.out | apply IsS106.alloc | apply IsS106.drewN | apply IsS106.drew | apply IsS106.set_1 | refine IsS106.far ?_ NB0_203.out _ | refine IsS106.far ?_ NB0_209.out _) | exact HI0.out))) : gb220 ≠ g))
                clear HO_6
                clear HO_210001
                clear BK203
                clear BK209
                clear HI0
                clear HK
                clear HB
                have HO_6 := n0_
                have HO_210001 := n1_
                have BK203 := n2_
                have BK209 := n3_
                have HI0 := n4_
                have HK := n5_
                have HB := n6_
                have BK220 := n7_
                have GW220 := n8_
                have GE220 := n9_
                have NB203_220 := n10_
                have NB220_203 := n11_
                have NB209_220 := n12_
                have NB220_209 := n13_
                have NB0_220 := n14_
                have NB220_0 := n15_
                clear n0_ n1_ n2_ n3_ n4_ n5_ n6_ n7_ n8_ n9_ n10_ n11_ n12_ n13_ n14_ n15_
                clear hb hbox hg
                refine hK.out _ _ (HS0_) (fun hHeld => ?_)
                clear hK K
                refine norm_ (a' := ?_) ?_ ?_
                rotate_left
                ·show Act.put _ (some 9) _ = _
                 simp only [Act.put, List.setIfInBounds_toArray, List.set_cons_zero, List.set_cons_succ, i64_w, i32_w]
                 rfl
                refine one_ (i := 5) (N := some 39) #[true, true, true, true, true, true, false, true, false] rfl rfl (one_of HT_.out u17_) u39_ (fun K hK => ?_)
                refine goes_ Tryd.func90 u17_ rfl #[.pointer (some ⟨g, 0, none⟩)] u67_ rfl rfl u0_ ?_
                with_reducible refine (spec_l11Text.calls kj17 g s0_0 x1001_17 t218 t219 w0 _ ?side1 ?side2 A26.out).mono ?_
                (case side1 => repeat (first | (with_reducible first | exact HI0.out | apply IsS106.alloc | apply IsS106.drewN | apply IsS106.drew | apply IsS106.set_1 | refine IsS106.far ?_ NB0_203.out _ | refine IsS106.far ?_ NB0_209.out _ | refine IsS106.far ?_ NB0_220.out _) | exact HI0.out))
                (case side2 => repeat (first | (with_reducible first | exact HB.out | apply below_alloc | apply pw_below_drewN | apply below_drew1 | refine below_set ?_ (IsS106.ge HI0.out) | refine below_set ?_ GE203.out | refine below_set ?_ GE209.out | refine below_set ?_ GE220.out) | exact HB.out))
                rintro e w34 ⟨rfl, hi, hb, hk⟩
                have HS0_ := keep_cell hk (hHeld) u119_
                refine ⟨_, rfl, ?_⟩
                have n0_ := Aside0.mk (Kd.R_mono (Kd.R_keep (IsS106.apart (show IsS106 w0 _ g s0_0 x1001_17 from by repeat (first | (with_reducible first | exact HI0.out | apply IsS106.alloc | apply IsS106.drewN | apply IsS106.drew | apply IsS106.set_1 | refine IsS106.far ?_ NB0_203.out _ | refine IsS106.far ?_ NB0_209.out _ | refine IsS106.far ?_ NB0_220.out _) | exact HI0.out)) u27_ u39_) hk (fun _ h => h.2)) (fun _ h => h.1))
                have n1_ := Aside0.mk (Kd.R_mono (Kd.R_keep (IsS106.apart (show IsS106 w0 _ g s0_0 x1001_17 from by repeat (first | (with_reducible first | exact HI0.out | apply IsS106.alloc | apply IsS106.drewN | apply IsS106.drew | apply IsS106.set_1 | refine IsS106.far ?_ NB0_203.out _ | refine IsS106.far ?_ NB0_209.out _ | refine IsS106.far ?_ NB0_220.out _) | exact HI0.out)) u37_ u39_) hk (fun _ h => h.2)) (fun _ h => h.1))
                have n2_ := Aside0.mk (KeepBut.blk hk (g' := gb203) (o := .cells #[.string (⟨#[]⟩ : ByteArray), .slice none 0 0] 37 (0, 0)) u12_ NB203_0.out u89_)
                have n3_ := Aside0.mk (KeepBut.blk hk (g' := gb209) (o := .cells #[.string t207, u210001] 37 (0, 0)) u18_ NB209_0.out u89_)
                have n4_ := Aside0.mk (KeepBut.blk hk (g' := gb220) (o := .cells #[.string (⟨#[]⟩ : ByteArray), .string (⟨#[]⟩ : ByteArray)] 74 (0, 0)) u56_ NB220_0.out u89_)
                have n5_ := Aside0.mk (KeepBut.trans u9_ hk (.inl rfl))
                have n6_ := Aside0.mk (hb)
                have n7_ := Aside0.mk (hi)
                clear HO_6
                clear HO_210001
                clear BK203
                clear BK209
                clear BK220
                clear HK
                clear HB
                clear HI0
                have HO_6 := n0_
                have HO_210001 := n1_
                have BK203 := n2_
                have BK209 := n3_
                have BK220 := n4_
                have HK := n5_
                have HB := n6_
                have HI0 := n7_
                clear n0_ n1_ n2_ n3_ n4_ n5_ n6_ n7_
                (try clear hb)
                (try clear hb2)
                (try clear hk)
                (try clear hi)
                refine hK.out _ _ (HS0_) (fun hHeld => ?_)
                clear hK K
                refine norm_ (a' := ?_) ?_ ?_
                rotate_left
                ·show Act.put _ (some 39) _ = _
                 simp only [Act.put, List.setIfInBounds_toArray, List.set_cons_zero, List.set_cons_succ, i64_w, i32_w]
                 rfl
                refine pure_ (i := 6) (N := some 40) (v := ?_) (a' := ?_) #[true, true, true, true, true, true, true, true, false] rfl rfl (any_of HT_.out u17_) (fun _ _ _ h => h) (Or.inl ⟨u67_, ?_⟩) ?_ ?_
                rotate_left
                ·intro w'
                 go_simp
                 with_reducible rfl
                rotate_left
                ·simp only [Act.put, List.setIfInBounds_toArray, List.set_cons_zero, List.set_cons_succ, i64_w, i32_w]
                 rfl
                exact norm_ u84_ (hCont (gb220) _ ⟨hHeld, u83_, u27_, u12_, u18_, u56_, GW220.out, GE220.out, NB0_220.out, NB220_0.out, NB203_220.out, NB220_203.out, NB209_220.out, NB220_209.out, u33_, u9_, u21_⟩)
              rintro gb220 w35 ⟨hS_, h0_, h1_, h2_, h3_, h4_, h5_, h6_, h7_, h8_, h9_, h10_, h11_, h12_, h13_, h14_, h15_⟩
              have n0_ : Aside0 (Kd.R k74 74 w35 w.heap.size (fun k_ => k_ ≠ gb220) u210001 x210001_1) := ⟨h0_⟩
              have n1_ : Aside0 (Kd.R Kd.string 9 w35 w.heap.size (fun _ => True) (.slice (some ad213) y210.length co19) y210) := ⟨h1_⟩
              have n2_ : Aside0 (w35.heap[gb203]? = some (.cells #[.string (⟨#[]⟩ : ByteArray), .slice none 0 0] 37 (0, 0))) := ⟨h2_⟩
              have n3_ : Aside0 (w35.heap[gb209]? = some (.cells #[.string t207, u210001] 37 (0, 0))) := ⟨h3_⟩
              have n4_ : Aside0 (w35.heap[gb220]? = some (.cells #[.string (⟨#[]⟩ : ByteArray), .string (⟨#[]⟩ : ByteArray)] 74 (0, 0))) := ⟨h4_⟩
              have n5_ : Aside0 (w.heap.size ≤ gb220) := ⟨h5_⟩
              have n6_ : Aside0 (w0.heap.size ≤ gb220) := ⟨h6_⟩
              have n7_ : Aside0 (g ≠ gb220) := ⟨h7_⟩
              have n8_ : Aside0 (gb220 ≠ g) := ⟨h8_⟩
              have n9_ : Aside0 (gb203 ≠ gb220) := ⟨h9_⟩
              have n10_ : Aside0 (gb220 ≠ gb203) := ⟨h10_⟩
              have n11_ : Aside0 (gb209 ≠ gb220) := ⟨h11_⟩
              have n12_ : Aside0 (gb220 ≠ gb209) := ⟨h12_⟩
              have n13_ : Aside0 (IsS106 w0 w35 g s0_0 t219) := ⟨h13_⟩
              have n14_ : Aside0 (KeepBut w w35 g none) := ⟨h14_⟩
              have n15_ : Aside0 (Below w0.heap.size w0 w35) := ⟨h15_⟩
              clear HO_6
              clear HO_210001
              clear BK203
              clear BK209
              clear HI0
              clear HK
              clear HB
              clear h0_ h1_ h2_ h3_ h4_ h5_ h6_ h7_ h8_ h9_ h10_ h11_ h12_ h13_ h14_ h15_
              have HO_210001 := n0_
              have HO_6 := n1_
              have BK203 := n2_
              have BK209 := n3_
              have BK220 := n4_
              have GW220 := n5_
              have GE220 := n6_
              have NB0_220 := n7_
              have NB220_0 := n8_
              have NB203_220 := n9_
              have NB220_203 := n10_
              have NB209_220 := n11_
              have NB220_209 := n12_
              have HI0 := n13_
              have HK := n14_
              have HB := n15_
              clear n0_ n1_ n2_ n3_ n4_ n5_ n6_ n7_ n8_ n9_ n10_ n11_ n12_ n13_ n14_ n15_
              have hHeld : w35.cell? (ad213.add (x7_1).toNat) = some (.string (rdOf ByteArray.empty y210 x7_1)) := hS_
              refine norm_ (a' := ?_) ?_ ?_
              rotate_left
              ·simp only [putAll, Act.put, List.setIfInBounds_toArray, List.set_cons_zero, List.set_cons_succ]
               rfl
              refine one_ (i := 8) (N := none) #[true, true, true, true, true, true, true, true, true] rfl rfl (one_of HT_.out u17_) u39_ (fun K hK => ?_)
              have hs36 : w35.cell? ⟨gb220, 0, none⟩ = some (.string (⟨#[]⟩ : ByteArray)) := (blk_cell BK220.out 0).trans rfl
              have hfs36 := blk_frozen BK220.out 0
              have hns36_0 := NB203_220.out
              have hns36_1 := NB209_220.out
              have hms36_0 := NB220_203.out
              have hms36_1 := NB220_209.out
              have hs37 : w35.cell? ⟨gb220, 1, none⟩ = some (.string (⟨#[]⟩ : ByteArray)) := (blk_cell BK220.out 1).trans rfl
              have hfs37 := blk_frozen BK220.out 1
              have hns37_0 := NB203_220.out
              have hns37_1 := NB209_220.out
              have hms37_0 := NB220_203.out
              have hms37_1 := NB220_209.out
              refine skip_ (w1 := ?_) u67_ rfl ?_ ?_
              rotate_left
              ·go_simp
               rfl
              refine hK.out _ _ (((cell_far (p := ⟨gb220, _, none⟩) u141_ _).trans (((cell_far (p := ⟨gb220, _, none⟩) u141_ _).trans (hHeld))))) (fun hHeld => ?_)
              clear hK K
              refine done_ (done_of HT_.out u17_) ?_
              have p221 : 0 ≤ (t214 : Int) := of_decide_eq_true u1_
              have q221 : t214 < (l1.length : Int) := of_decide_eq_true u1_
              obtain ⟨ad221, e221, hx221_0, hx221_1, hx221_2⟩ := at_T32 (Kd.C_foot_now HR1.out (show KeepBut w ((w35.setCell ⟨gb220, 0, none⟩ (.string (rdOf ByteArray.empty y210 x7_1))).setCell ⟨gb220, 1, none⟩ (.string t218)) g none from by repeat (first | (with_reducible first | exact HK.out | apply KeepBut.set_ | apply keep_drewN | apply keep_drew | apply keep_alloc | refine keep_far ?_ GW203.out _ | refine keep_far ?_ GW209.out _ | refine keep_far ?_ GW220.out _) | exact HK.out))) t214 p221 q221
              cases e221
              replace p221 := eq_true p221
              replace q221 := eq_true q221
              try go_wp2_with (first | ((with_reducible refine gate_dst (N := 49) rfl ?_); refine Kd.R_lit Kd.string _ 9 ?hg (N := 49) ?hd (xs := ([(⟨#[48]⟩ : ByteArray), (⟨#[53]⟩ : ByteArray), (⟨#[55]⟩ : ByteArray), (⟨#[45, 51]⟩ : ByteArray), (⟨#[49, 50]⟩ : ByteArray), (⟨#[57, 57, 57, 57, 57, 57, 57, 57, 57]⟩ : ByteArray)] : List ByteArray)) (inner := [.string (⟨#[48]⟩ : ByteArray), .string (⟨#[53]⟩ : ByteArray), .string (⟨#[55]⟩ : ByteArray), .string (⟨#[45, 51]⟩ : ByteArray), .string (⟨#[49, 50]⟩ : ByteArray), .string (⟨#[57, 57, 57, 57, 57, 57, 57, 57, 57]⟩ : ByteArray)]) (ok := fun _ => True) (okp := fun _ => True) ?hr ?hp (fun _ hk => hk) trivial (Below.refl _ _) (Nat.le_refl _) u89_ ?_; (case hd => rfl); (case hg => rfl); (case hr => first | (go_simp; done) | (go_simp; rfl)); (case hp => exact (Reps.one (show Kd.M Kd.string _ _ _ (⟨#[48]⟩ : ByteArray) [.string (⟨#[48]⟩ : ByteArray)] from rfl) (Reps.one (show Kd.M Kd.string _ _ _ (⟨#[53]⟩ : ByteArray) [.string (⟨#[53]⟩ : ByteArray)] from rfl) (Reps.one (show Kd.M Kd.string _ _ _ (⟨#[55]⟩ : ByteArray) [.string (⟨#[55]⟩ : ByteArray)] from rfl) (Reps.one (show Kd.M Kd.string _ _ _ (⟨#[45, 51]⟩ : ByteArray) [.string (⟨#[45, 51]⟩ : ByteArray)] from rfl) (Reps.one (show Kd.M Kd.string _ _ _ (⟨#[49, 50]⟩ : ByteArray) [.string (⟨#[49, 50]⟩ : ByteArray)] from rfl) (Reps.one (show Kd.M Kd.string _ _ _ (⟨#[57, 57, 57, 57, 57, 57, 57, 57, 57]⟩ : ByteArray) [.string (⟨#[57, 57, 57, 57, 57, 57, 57, 57, 57]⟩ : ByteArray)] from rfl) (Reps.none _ _)))))))); intro v223 w38 ho39 hb hg_ hnew_; clear hg_ hnew_; (first | rw [← Ny222.out] at ho39 | (simp only [Int.reduceToNat] at ho39; rw [← Ny222.out] at ho39)); have n0_ := Aside0.mk (Kd.R_elder' u118_ (Kd.R_base ho39) hb); have n1_ := Aside0.mk (Kd.R_below u81_ hb); have n2_ := Aside0.mk (Kd.R_lower (Kd.R_new' ho39 (Kd.R_lt u118_)) (keep_size (w := w) (g := g) (row := none) u9_)); have n3_ := Aside0.mk (blk_below (g := gb203) (o := .cells #[.string (⟨#[]⟩ : ByteArray), .slice none 0 0] 37 (0, 0)) u75_ hb); have n4_ := Aside0.mk (blk_below (g := gb209) (o := .cells #[.string t207, u210001] 37 (0, 0)) u76_ hb); have n5_ := Aside0.mk (IsS106.below (show IsS106 w0 ((w35.setCell ⟨gb220, 0, none⟩ (.string (rdOf ByteArray.empty y210 x7_1))).setCell ⟨gb220, 1, none⟩ (.string t218)) g s0_0 t219 from by repeat (first | (with_reducible first | exact HI0.out | apply IsS106.alloc | apply IsS106.drewN | apply IsS106.drew | apply IsS106.set_1 | refine IsS106.far ?_ NB0_203.out _ | refine IsS106.far ?_ NB0_209.out _ | refine IsS106.far ?_ NB0_220.out _) | exact HI0.out)) hb); have n6_ := Aside0.mk (blk_below (g := gb220) (o := .cells #[.string (rdOf ByteArray.empty y210 x7_1), .string t218] 74 (0, 0)) u40_ hb); have n7_ := Aside0.mk (KeepBut.trans u9_ (KeepBut.of_below hb g none) (.inl rfl)); have n8_ := Aside0.mk (below_step u21_ hb); clear HO_6; clear HO_210001; clear BK203; clear BK209; clear HI0; clear BK220; clear HK; clear HB; have HO_6 := n0_; have HO_210001 := n1_; have HO224 := n2_; have BK203 := n3_; have BK209 := n4_; have HI0 := n5_; have BK220 := n6_; have HK := n7_; have HB := n8_; clear n0_ n1_ n2_ n3_ n4_ n5_ n6_ n7_ n8_; clear hb ho39; obtain ⟨Ao40, co40, eo40⟩ := Kd.R_slice HO224.out; subst eo40) | ((with_reducible refine gate_callee (f := 78) rfl ?_); refine goesL_ (some 50) rfl rfl Tryd.func78 u17_ rfl #[.pointer (some ⟨g, 0, none⟩), .slice Ao40 y222.length co40] rfl u0_ ?_; (with_reducible refine (spec_l1Rd_of.calls kj17 g s0_0 t219 _ _ y222 t225 t226 w0 _ ?side1 ?side2 ?side3 ?side4 ?side5 A30.out).mono ?_); (case side1 => repeat (first | (with_reducible first | exact HI0.out | apply IsS106.alloc | apply IsS106.drewN | apply IsS106.drew | apply IsS106.set_1 | refine IsS106.far ?_ NB0_203.out _ | refine IsS106.far ?_ NB0_209.out _ | refine IsS106.far ?_ NB0_220.out _) | exact HI0.out)); (case side2 => repeat (first | (with_reducible first | exact HB.out | apply below_alloc | apply pw_below_drewN | apply below_drew1 | refine below_set ?_ (IsS106.ge HI0.out) | refine below_set ?_ GE203.out | refine below_set ?_ GE209.out | refine below_set ?_ GE220.out) | exact HB.out)); (case side3 => repeat (first | exact (Kd.R_reads' HO224.out).2.2 | (with_reducible refine Kd.C_alloc ?_ _) | (with_reducible refine Kd.C_drewN ?_ _) | (with_reducible refine Kd.C_drew ?_))); (case side4 => exact (Kd.R_reads' HO224.out).2.1); (case side5 => exact far_slice (IsS106.own_ne HI0.out HO224.out u39_)); rintro e w41 ⟨rfl, hi, hb, hk⟩; refine ⟨_, rfl, ?_⟩; have n0_ := Aside0.mk (Kd.R_mono (Kd.R_keep (IsS106.apart (show IsS106 w0 _ g s0_0 t219 from by repeat (first | (with_reducible first | exact HI0.out | apply IsS106.alloc | apply IsS106.drewN | apply IsS106.drew | apply IsS106.set_1 | refine IsS106.far ?_ NB0_203.out _ | refine IsS106.far ?_ NB0_209.out _ | refine IsS106.far ?_ NB0_220.out _) | exact HI0.out)) u27_ u39_) hk (fun _ h => h.2)) (fun _ h => h.1)); have n1_ := Aside0.mk (Kd.R_mono (Kd.R_keep (IsS106.apart (show IsS106 w0 _ g s0_0 t219 from by repeat (first | (with_reducible first | exact HI0.out | apply IsS106.alloc | apply IsS106.drewN | apply IsS106.drew | apply IsS106.set_1 | refine IsS106.far ?_ NB0_203.out _ | refine IsS106.far ?_ NB0_209.out _ | refine IsS106.far ?_ NB0_220.out _) | exact HI0.out)) u37_ u39_) hk (fun _ h => h.2)) (fun _ h => h.1)); have n2_ := Aside0.mk (KeepBut.blk hk (g' := gb203) (o := .cells #[.string (⟨#[]⟩ : ByteArray), .slice none 0 0] 37 (0, 0)) u12_ NB203_0.out u89_); have n3_ := Aside0.mk (KeepBut.blk hk (g' := gb209) (o := .cells #[.string t207, u210001] 37 (0, 0)) u18_ NB209_0.out u89_); have n4_ := Aside0.mk (KeepBut.blk hk (g' := gb220) (o := .cells #[.string (rdOf ByteArray.empty y210 x7_1), .string t218] 74 (0, 0)) u56_ NB220_0.out u89_); have n5_ := Aside0.mk (Kd.R_mono (Kd.R_keep (IsS106.apart (show IsS106 w0 _ g s0_0 t219 from by repeat (first | (with_reducible first | exact HI0.out | apply IsS106.alloc | apply IsS106.drewN | apply IsS106.drew | apply IsS106.set_1 | refine IsS106.far ?_ NB0_203.out _ | refine IsS106.far ?_ NB0_209.out _ | refine IsS106.far ?_ NB0_220.out _) | exact HI0.out)) (by (with_reducible repeat (first | apply Kd.R_alloc | apply Kd.R_drewN | apply Kd.R_drew)); exact HO224.out) u39_) hk (fun _ h => h.2)) (fun _ h => h.1)); have n6_ := Aside0.mk (KeepBut.trans u9_ hk (.inl rfl)); have n7_ := Aside0.mk (hb); have n8_ := Aside0.mk (hi); clear HO_6; clear HO_210001; clear BK203; clear BK209; clear BK220; clear HO224; clear HK; clear HB; clear HI0; have HO_6 := n0_; have HO_210001 := n1_; have BK203 := n2_; have BK209 := n3_; have BK220 := n4_; have HO224 := n5_; have HK := n6_; have HB := n7_; have HI0 := n8_; clear n0_ n1_ n2_ n3_ n4_ n5_ n6_ n7_ n8_; (try clear hb); (try clear hb2); (try clear hk); (try clear hi); have hnb42 := NB220_203.out; have hnc42 := NB203_220.out; have hnb43 := NB220_209.out; have hnc43 := NB209_220.out; have hnb44 := NB220_0.out; have hnc44 := NB0_220.out; have hcz45_0 : w41.cell? ⟨gb220, 0, none⟩ = some (.string (rdOf ByteArray.empty y210 x7_1)) := (blk_cell BK220.out 0).trans rfl; have hcz45_1 : w41.cell? ⟨gb220, 1, none⟩ = some (.string t218) := (blk_cell BK220.out 1).trans rfl; have hfz45_0 := blk_frozen BK220.out 0; have hfz45_1 := blk_frozen BK220.out 1; have hnb46 := NB209_203.out; have hnc46 := NB203_209.out; have hnb47 := NB209_0.out; have hnc47 := NB0_209.out; have hcz48_0 : w41.cell? ⟨gb209, 0, none⟩ = some (.string t207) := (blk_cell BK209.out 0).trans rfl; have hcz48_1 : w41.cell? ⟨gb209, 1, none⟩ = some (u210001) := (blk_cell BK209.out 1).trans rfl; have hfz48_0 := blk_frozen BK209.out 0; have hfz48_1 := blk_frozen BK209.out 1) | ((with_reducible refine gate_builtin (b := .append) (xs := #[.tmp 59, .tmp 61]) rfl ?_); at_builtin; refine Kd.R_append k74 w.heap.size rfl (.tmp 59) (.tmp 61) 35 74 (.agg #[(.string ⟨#[]⟩), (.string ⟨#[]⟩)]) 32 rfl Tryd.underlying35 info74 rfl u39_ (by omega) u210001 x210001_1 (⟨rdOf ByteArray.empty y210 x7_1, t225⟩ : S74) [.string (rdOf ByteArray.empty y210 x7_1), .string t225] (fun k_ => k_ ≠ gb220) (fun _ => False) rfl (by first | (go_simp; done) | (go_simp; rfl)) ?aP (fun _ hk => hk.elim) ?aF ?aO (Below.refl _ _) ?aS ?aL ?_; (case aP => exact k74_mkM _ _ _ (⟨rdOf ByteArray.empty y210 x7_1, t225⟩ : S74)); (case aF => exact (fun k_ hk => Kd.freshB (g := gb220) (o := .cells #[.string (rdOf ByteArray.empty y210 x7_1), .string t225] 74 (0, 0)) u65_ k_ hk)); (case aO => exact (by (with_reducible repeat (first | apply Kd.R_alloc | apply Kd.R_drewN | apply Kd.R_drew)); exact Kd.R_mono (Kd.R_far (p := ⟨gb220, 1, none⟩) (Kd.R_mono HO_210001.out (fun k_ hk => (⟨hk, hk⟩ : _ ∧ k_ ≠ gb220))) (fun _ hk => hk.2) (.string t225)) (fun _ hk => hk.1))); (case aS => exact (keep_size (w := w) (g := g) (row := none) u9_)); (case aL => have := LMc31.out; omega); intro v228 w49 ho hb hg hat; rw [← Ny227.out] at ho; have n0_ := Aside0.mk (Kd.R_over' (by (with_reducible repeat (first | apply Kd.R_alloc | apply Kd.R_drewN | apply Kd.R_drew)); exact (Kd.R_mono (Kd.R_far (p := ⟨gb220, 1, none⟩) (Kd.R_types HO_6.out BK220.out u39_) (fun _ hk => hk.2) (.string t225)) (fun _ h_ => h_.1))) (Kd.R_typed u108_) u39_ hg); have n1_ := Aside0.mk (blk_grown (g := gb203) (o := .cells #[.string (⟨#[]⟩ : ByteArray), .slice none 0 0] 37 (0, 0)) u110_ hg (Kd.R_ne HO_210001.out BK203.out u39_)); have n2_ := Aside0.mk (blk_grown (g := gb209) (o := .cells #[.string t207, u210001] 37 (0, 0)) u111_ hg (Kd.R_ne HO_210001.out BK209.out u39_)); have n3_ := Aside0.mk (IsS106.grown (show IsS106 w0 _ g s0_0 t226 from by repeat (first | (with_reducible first | exact HI0.out | apply IsS106.alloc | apply IsS106.drewN | apply IsS106.drew | apply IsS106.set_1 | refine IsS106.far ?_ NB0_203.out _ | refine IsS106.far ?_ NB0_209.out _ | refine IsS106.far ?_ NB0_220.out _) | exact HI0.out)) hg (IsS106.own_ne HI0.out HO_210001.out u39_)); have n4_ := Aside0.mk (blk_grown (g := gb220) (o := .cells #[.string (rdOf ByteArray.empty y210 x7_1), .string t225] 74 (0, 0)) u65_ hg (Kd.R_away HO_210001.out (fun _ hk => hk))); have n5_ := Aside0.mk (Kd.R_over' (by (with_reducible repeat (first | apply Kd.R_alloc | apply Kd.R_drewN | apply Kd.R_drew)); exact (Kd.R_mono (Kd.R_far (p := ⟨gb220, 1, none⟩) (Kd.R_types HO224.out BK220.out u39_) (fun _ hk => hk.2) (.string t225)) (fun _ h_ => h_.1))) (Kd.R_typed u108_) u39_ hg); have n6_ := Aside0.mk (below_weaken u21_ HL.out hb); have n7_ := Aside0.mk (KeepBut.trans u9_ (KeepBut.of_grown hg g) (Kd.R_base2 HO_210001.out)); have n8_ := Aside0.mk (ho); clear HO_6; clear BK203; clear BK209; clear HI0; clear BK220; clear HO224; clear HB; clear HK; clear HO_210001; have HO_6 := n0_; have BK203 := n1_; have BK209 := n2_; have HI0 := n3_; have BK220 := n4_; have HO224 := n5_; have HB := n6_; have HK := n7_; have HO229 := n8_; clear n0_ n1_ n2_ n3_ n4_ n5_ n6_ n7_ n8_; clear ho hb hg hat; obtain ⟨Ao50, co50, eo50⟩ := Kd.R_slice HO229.out; subst eo50; have hcz51_0 : w49.cell? ⟨gb209, 0, none⟩ = some (.string t207) := (blk_cell BK209.out 0).trans rfl; have hcz51_1 : w49.cell? ⟨gb209, 1, none⟩ = some (u210001) := (blk_cell BK209.out 1).trans rfl; have hfz51_0 := blk_frozen BK209.out 0; have hfz51_1 := blk_frozen BK209.out 1))
              go_roundg kj17
              case measure => have := HK1.out; have := HJ17.out; omega
              case rel => exact ⟨(wrap64 (x7_1 + 1)), (t226), (y227), (.slice Ao50 y227.length co50), u22_, H', ⟨by have := HK1.out; have := HJ17.out; omega⟩, ⟨by (with_reducible repeat (first | apply Kd.R_alloc | apply Kd.R_drewN | apply Kd.R_drew)); exact Kd.R_mono (Kd.R_far (p := ⟨gb209, 1, none⟩) (Kd.R_types HO_6.out BK209.out u39_) (fun _ hk => hk.2) (.slice Ao50 y227.length co50)) (fun _ hk => trivial)⟩, ⟨by (with_reducible repeat (first | apply Kd.R_alloc | apply Kd.R_drewN | apply Kd.R_drew)); exact Kd.R_mono (Kd.R_far (p := ⟨gb209, 1, none⟩) (Kd.R_types HO229.out BK209.out u39_) (fun _ hk => hk.2) (.slice Ao50 y227.length co50)) (fun _ hk => trivial)⟩, ⟨u93_⟩, ⟨u91_⟩, ⟨u33_⟩, ⟨u9_⟩, ⟨u21_⟩⟩
             ·rw [if_neg c31] at H
              exact absurd H u89_
            ·rw [if_neg c29] at H
             have c29b0 : (((rd_T32 l1 t214).f1) == 2) = false := beq_eq_false_iff_ne.mpr c29
             have c29b1 : (((rd_T32 l1 t214).f1) != 2) = true := bne_iff_ne.mpr c29
             by_cases c52 : ((rd_T32 l1 t214).f1) = 3
             ·rw [if_pos c52] at H
              have c52b0 : (((rd_T32 l1 t214).f1) == 3) = true := beq_iff_eq.mpr c52
              have c52b1 : (((rd_T32 l1 t214).f1) != 3) = false := bne_eq_false_iff_eq.mpr c52
              clear c52
              obtain ⟨y230, hy230⟩ : ∃ y_ : List ByteArray, y_ = (([(⟨#[114, 101, 100]⟩ : ByteArray), (⟨#[98, 108, 117, 101]⟩ : ByteArray), (⟨#[114, 101, 100, 44, 98, 108, 117, 101]⟩ : ByteArray), (⟨#[98, 108, 117, 101, 44, 114, 101, 100, 44, 114, 101, 100]⟩ : ByteArray), (⟨#[103, 114, 101, 101, 110]⟩ : ByteArray)] : List ByteArray)) := ⟨_, rfl⟩
              replace H : ((spec_l1Rd_of.f kj17 s0_0 t219 y230).bind fun bt233 => (if x210001_1.length < 4398046511104 then (spec_l11Doc.l0 kj17 l1 y210 (wrap64 (x7_1 + 1)) s0_0 bt233.2 t207 (x210001_1 ++ [(⟨rdOf ByteArray.empty y210 x7_1, bt233.1⟩ : S74)])) else (none))) = some (r1, r2, r3) := by first | (rw [hy230]; with_reducible exact H) | (have H2_ := (Option.bind_some _ _).symm.trans H; rw [hy230]; with_reducible exact H2_) | (have H2_ := (Option.bind_some _ _).symm.trans H; with_reducible exact H2_) | with_reducible exact H | (rw [hy230]; exact H) | exact H
              have Ny230 := Aside0.mk hy230
              clear hy230
              replace H := Option.bind_eq_some_iff.mp H
              obtain ⟨⟨t233, t234⟩, A530, H⟩ := H
              replace H : (if x210001_1.length < 4398046511104 then (spec_l11Doc.l0 kj17 l1 y210 (wrap64 (x7_1 + 1)) s0_0 t234 t207 (x210001_1 ++ [(⟨rdOf ByteArray.empty y210 x7_1, t233⟩ : S74)])) else (none)) = some (r1, r2, r3) := H
              have A53 := Aside0.mk A530
              clear A530
              by_cases c54 : x210001_1.length < 4398046511104
              ·rw [if_pos c54] at H
               have LMc54 := Aside0.mk c54
               clear c54
               obtain ⟨y235, hy235⟩ : ∃ y_ : List (S74), y_ = (x210001_1 ++ [(⟨rdOf ByteArray.empty y210 x7_1, t233⟩ : S74)]) := ⟨_, rfl⟩
               replace H : (spec_l11Doc.l0 kj17 l1 y210 (wrap64 (x7_1 + 1)) s0_0 t234 t207 y235) = some (r1, r2, r3) := by first | (rw [hy235]; with_reducible exact H) | (have H2_ := (Option.bind_some _ _).symm.trans H; rw [hy235]; with_reducible exact H2_) | (have H2_ := (Option.bind_some _ _).symm.trans H; with_reducible exact H2_) | with_reducible exact H | (rw [hy235]; exact H) | exact H
               have Ny235 := Aside0.mk hy235
               clear hy235
               have H' := Aside0.mk H
               clear H
               try go_wp2
               have n0_ := Aside0.mk (Kd.R_drew HO_6.out)
               have n1_ := Aside0.mk (Kd.R_drew HO_210001.out)
               have n2_ := Aside0.mk (blk_drew BK203.out)
               have n3_ := Aside0.mk (blk_drew BK209.out)
               have n4_ := Aside0.mk (IsS106.drew HI0.out)
               have n5_ := Aside0.mk (keep_drew HK.out)
               have n6_ := Aside0.mk (below_drew1 HB.out)
               clear HO_6
               clear HO_210001
               clear BK203
               clear BK209
               clear HI0
               clear HK
               clear HB
               have HO_6 := n0_
               have HO_210001 := n1_
               have BK203 := n2_
               have BK209 := n3_
               have HI0 := n4_
               have HK := n5_
               have HB := n6_
               clear n0_ n1_ n2_ n3_ n4_ n5_ n6_
               have p217 : 0 ≤ (x7_1 : Int) := of_decide_eq_true u1_
               have q217 : x7_1 < (y210.length : Int) := of_decide_eq_true u1_
               obtain ⟨ad217, e217, hx217_0⟩ := Kd.at_string (Kd.R_reads' HO_6.out).2.2 x7_1 p217 q217
               obtain rfl : ad213 = ad217 := (by injection e217)
               replace p217 := eq_true p217
               replace q217 := eq_true q217
               refine start_ (n := 9) (S := fun w' => w'.cell? (ad213.add (x7_1).toNat) = some (.string (rdOf ByteArray.empty y210 x7_1))) (ds := []) #[false, false, false, false, false, false, false, false, false] u17_ rfl rfl (hx217_0) (fun hHeld => ?_); refine with_tabW spec_l11Doc.tab8 spec_l11Doc.bits8 (fun HT_ HW_ => ?_)
               generalize wc.drew = w55 at HO_6 HO_210001 BK203 BK209 HI0 HK HB hx217_0 hHeld ⊢
               refine pure_ (i := 0) (N := some 34) (v := ?_) (a' := ?_) #[true, false, false, false, false, false, false, false, false] rfl rfl (any_of HT_.out u17_) (fun _ _ _ h => h) (Or.inl ⟨u67_, ?_⟩) ?_ ?_
               rotate_left
               ·intro w'
                go_simp
                with_reducible rfl
               rotate_left
               ·simp only [Act.put, List.setIfInBounds_toArray, List.set_cons_zero, List.set_cons_succ, i64_w, i32_w]
                rfl
               refine pure_ (i := 1) (N := some 35) (v := ?_) (a' := ?_) #[true, true, false, false, false, false, false, false, false] rfl rfl (any_of HT_.out u17_) (fun _ _ _ h => h) (Or.inl ⟨u67_, ?_⟩) ?_ ?_
               rotate_left
               ·intro w'
                go_simp
                with_reducible rfl
               rotate_left
               ·simp only [Act.put, List.setIfInBounds_toArray, List.set_cons_zero, List.set_cons_succ, i64_w, i32_w]
                rfl
               refine pure_ (i := 2) (N := some 36) (v := ?_) (a' := ?_) #[true, true, true, false, false, false, false, false, false] rfl rfl (any_of HT_.out u17_) (fun _ _ _ h => h) (Or.inl ⟨u67_, ?_⟩) ?_ ?_
               rotate_left
               ·intro w'
                go_simp
                with_reducible rfl
               rotate_left
               ·simp only [Act.put, List.setIfInBounds_toArray, List.set_cons_zero, List.set_cons_succ, i64_w, i32_w]
                rfl
               refine pure_ (i := 4) (N := some 38) (v := ?_) (a' := ?_) #[true, true, true, false, true, false, false, false, false] rfl rfl (any_of HT_.out u17_) (fun _ _ _ h => h) (Or.inl ⟨u67_, ?_⟩) ?_ ?_
               rotate_left
               ·intro w'
                go_simp
                with_reducible rfl
               rotate_left
               ·simp only [Act.put, List.setIfInBounds_toArray, List.set_cons_zero, List.set_cons_succ, i64_w, i32_w]
                rfl
               refine take_ (i := 3) (N := some 37) (v := ?_) (a' := ?_) #[true, true, true, true, true, false, false, false, false] rfl rfl (take_ofW HT_.out HW_.out u17_) (fun _ _ _ h => h) (Or.inl ⟨u67_, ?_⟩) hHeld ?_ ?_
               rotate_left
               ·intro w' s0
                go_simp
                with_reducible rfl
               rotate_left
               ·simp only [Act.put, List.setIfInBounds_toArray, List.set_cons_zero, List.set_cons_succ, i64_w, i32_w]
                rfl
               refine join_ (σ := Nat) 1 #[true, true, true, true, true, true, true, true, false] (fun s_ => [(39, .string t218), (9, .pointer (some ⟨s_, 0, none⟩)), (40, .agg #[.string (rdOf ByteArray.empty y210 x7_1), .string t218])]) (fun s_ w' => (w'.cell? (ad213.add (x7_1).toNat) = some (.string (rdOf ByteArray.empty y210 x7_1))) ∧ (Kd.R k74 74 w' w.heap.size (fun k_ => k_ ≠ s_) u210001 x210001_1) ∧ (Kd.R Kd.string 9 w' w.heap.size (fun _ => True) (.slice (some ad213) y210.length co19) y210) ∧ (w'.heap[gb203]? = some (.cells #[.string (⟨#[]⟩ : ByteArray), .slice none 0 0] 37 (0, 0))) ∧ (w'.heap[gb209]? = some (.cells #[.string t207, u210001] 37 (0, 0))) ∧ (w'.heap[s_]? = some (.cells #[.string (⟨#[]⟩ : ByteArray), .string (⟨#[]⟩ : ByteArray)] 74 (0, 0))) ∧ (w.heap.size ≤ s_) ∧ (w0.heap.size ≤ s_) ∧ (g ≠ s_) ∧ (s_ ≠ g) ∧ (gb203 ≠ s_) ∧ (s_ ≠ gb203) ∧ (gb209 ≠ s_) ∧ (s_ ≠ gb209) ∧ (IsS106 w0 w' g s0_0 t219) ∧ (KeepBut w w' g none) ∧ (Below w0.heap.size w0 w')) ?_ ?_
               rotate_left
               ·intro hCont
                refine two_ (i := 5) (j := 7) (Ni := some 39) (Nj := some 9) #[true, true, true, true, true, true, false, false, false] #[true, true, true, true, true, false, false, true, false] rfl rfl rfl rfl (two_of HT_.out u17_) u39_ u39_ (fun K hK => ?_) (fun K hK => ?_)
                ·skip
                 refine goes_ Tryd.func90 u17_ rfl #[.pointer (some ⟨g, 0, none⟩)] u67_ rfl rfl u0_ ?_
                 with_reducible refine (spec_l11Text.calls kj17 g s0_0 x1001_17 t218 t219 w0 _ ?side1 ?side2 A26.out).mono ?_
                 (case side1 => repeat (first | (with_reducible first | exact HI0.out | apply IsS106.alloc | apply IsS106.drewN | apply IsS106.drew | apply IsS106.set_1 | refine IsS106.far ?_ NB0_203.out _ | refine IsS106.far ?_ NB0_209.out _) | exact HI0.out))
                 (case side2 => repeat (first | (with_reducible first | exact HB.out | apply below_alloc | apply pw_below_drewN | apply below_drew1 | refine below_set ?_ (IsS106.ge HI0.out) | refine below_set ?_ GE203.out | refine below_set ?_ GE209.out) | exact HB.out))
                 rintro e w56 ⟨rfl, hi, hb, hk⟩
                 have HS0_ := keep_cell hk (hHeld) u119_
                 refine ⟨_, rfl, ?_⟩
                 have n0_ := Aside0.mk (Kd.R_mono (Kd.R_keep (IsS106.apart (show IsS106 w0 _ g s0_0 x1001_17 from by repeat (first | (with_reducible first | exact HI0.out | apply IsS106.alloc | apply IsS106.drewN | apply IsS106.drew | apply IsS106.set_1 | refine IsS106.far ?_ NB0_203.out _ | refine IsS106.far ?_ NB0_209.out _) | exact HI0.out)) u27_ u39_) hk (fun _ h => h.2)) (fun _ h => h.1))
                 have n1_ := Aside0.mk (Kd.R_mono (Kd.R_keep (IsS106.apart (show IsS106 w0 _ g s0_0 x1001_17 from by repeat (first | (with_reducible first | exact HI0.out | apply IsS106.alloc | apply IsS106.drewN | apply IsS106.drew | apply IsS106.set_1 | refine IsS106.far ?_ NB0_203.out _ | refine IsS106.far ?_ NB0_209.out _) | exact HI0.out)) u37_ u39_) hk (fun _ h => h.2)) (fun _ h => h.1))
                 have n2_ := Aside0.mk (KeepBut.blk hk (g' := gb203) (o := .cells #[.string (⟨#[]⟩ : ByteArray), .slice none 0 0] 37 (0, 0)) u12_ NB203_0.out u89_)
                 have n3_ := Aside0.mk (KeepBut.blk hk (g' := gb209) (o := .cells #[.string t207, u210001] 37 (0, 0)) u18_ NB209_0.out u89_)
                 have n4_ := Aside0.mk (KeepBut.trans u5_ hk (.inl rfl))
                 have n5_ := Aside0.mk (hb)
                 have n6_ := Aside0.mk (hi)
                 clear HO_6
                 clear HO_210001
                 clear BK203
                 clear BK209
                 clear HK
                 clear HB
                 clear HI0
                 have HO_6 := n0_
                 have HO_210001 := n1_
                 have BK203 := n2_
                 have BK209 := n3_
                 have HK := n4_
                 have HB := n5_
                 have HI0 := n6_
                 clear n0_ n1_ n2_ n3_ n4_ n5_ n6_
                 (try clear hb)
                 (try clear hb2)
                 (try clear hk)
                 (try clear hi)
                 refine hK.out _ _ (HS0_) (fun hHeld => ?_)
                 clear hK K
                 refine norm_ (a' := ?_) ?_ ?_
                 rotate_left
                 ·show Act.put _ (some 39) _ = _
                  simp only [Act.put, List.setIfInBounds_toArray, List.set_cons_zero, List.set_cons_succ, i64_w, i32_w]
                  rfl
                 refine pure_ (i := 6) (N := some 40) (v := ?_) (a' := ?_) #[true, true, true, true, true, true, true, false, false] rfl rfl (any_of HT_.out u17_) (fun _ _ _ h => h) (Or.inl ⟨u67_, ?_⟩) ?_ ?_
                 rotate_left
                 ·intro w'
                  go_simp
                  with_reducible rfl
                 rotate_left
                 ·simp only [Act.put, List.setIfInBounds_toArray, List.set_cons_zero, List.set_cons_succ, i64_w, i32_w]
                  rfl
                 refine one_ (i := 7) (N := some 9) #[true, true, true, true, true, true, true, true, false] rfl rfl (one_of HT_.out u17_) u39_ (fun K hK => ?_)
                 refine box_step ?hg (N := 9) ?hd (cs := #[.string (⟨#[]⟩ : ByteArray), .string (⟨#[]⟩ : ByteArray)]) (t := 74) ?hr ?_; (case hd => rfl); (case hg => rfl); (case hr => first | (go_simp; done) | (go_simp; rfl))
                 intro gb220 hg w57 hbox hb
                 have HS0_ := (hb.cell (World.block_lt_of_cell? _ _ (hHeld))).trans (hHeld)
                 have n0_ := Aside0.mk (Kd.R_below u27_ hb)
                 have n1_ := Aside0.mk (Kd.R_below (Kd.R_elderB u37_ gb220 (Nat.le_of_eq hg.symm)) hb)
                 have n2_ := Aside0.mk (blk_below (g := gb203) (o := .cells #[.string (⟨#[]⟩ : ByteArray), .slice none 0 0] 37 (0, 0)) u12_ hb)
                 have n3_ := Aside0.mk (blk_below (g := gb209) (o := .cells #[.string t207, u210001] 37 (0, 0)) u18_ hb)
                 have n4_ := Aside0.mk (IsS106.below u29_ hb)
                 have n5_ := Aside0.mk (KeepBut.trans u5_ (KeepBut.of_below hb g none) (.inl rfl))
                 have n6_ := Aside0.mk (below_step u25_ hb)
                 have n7_ := Aside0.mk (hbox)
                 have n8_ := Aside0.mk ((by rw [hg]; exact (keep_size (w := w) (g := g) (row := none) u5_) : w.heap.size ≤ gb220))
                 have n9_ := Aside0.mk ((Nat.le_trans HW0.out (by rw [hg]; exact (keep_size (w := w) (g := g) (row := none) u5_) : w.heap.size ≤ gb220) : w0.heap.size ≤ gb220))
                 have n10_ := Aside0.mk ((by rw [hg]; exact Nat.ne_of_lt (blk_lt (g := gb203) (o := .cells #[.string (⟨#[]⟩ : ByteArray), .slice none 0 0] 37 (0, 0)) u12_) : gb203 ≠ gb220))
                 have n11_ := Aside0.mk ((by rw [hg]; exact Nat.ne_of_gt (blk_lt (g := gb203) (o := .cells #[.string (⟨#[]⟩ : ByteArray), .slice none 0 0] 37 (0, 0)) u12_) : gb220 ≠ gb203))
                 have n12_ := Aside0.mk ((by rw [hg]; exact Nat.ne_of_lt (blk_lt (g := gb209) (o := .cells #[.string t207, u210001] 37 (0, 0)) u18_) : gb209 ≠ gb220))
                 have n13_ := Aside0.mk ((by rw [hg]; exact Nat.ne_of_gt (blk_lt (g := gb209) (o := .cells #[.string t207, u210001] 37 (0, 0)) u18_) : gb220 ≠ gb209))
                 have n14_ := Aside0.mk ((by rw [hg]; exact Nat.ne_of_lt (IsS106.lt (show IsS106 w0 _ g s0_0 t219 from by repeat (first | (with_reducible first | exact HI0.out | apply IsS106.alloc | apply IsS106.drewN | apply IsS106.drew | apply IsS106.set_1 | refine IsS106.far ?_ NB0_203.out _ | refine IsS106.far ?_ NB0_209.out _) | exact HI0.out))) : g ≠ gb220))
                 have n15_ := Aside0.mk ((by rw [hg]; exact Nat.ne_of_gt (IsS106.lt (show IsS106 w0 _ g s0_0 t219 from by repeat (first | (with_reducible first | exact HI0.out | apply IsS106.alloc | apply IsS106.drewN | apply IsS106.drew | apply IsS106.set_1 | refine IsS106.far ?_ NB0_203.out _ | refine IsS106.far ?_ NB0_209.out _) | exact HI0.out))) : gb220 ≠ g))
                 clear HO_6
                 clear HO_210001
                 clear BK203
                 clear BK209
                 clear HI0
                 clear HK
                 clear HB
                 have HO_6 := n0_
                 have HO_210001 := n1_
                 have BK203 := n2_
                 have BK209 := n3_
                 have HI0 := n4_
                 have HK := n5_
                 have HB := n6_
                 have BK220 := n7_
                 have GW220 := n8_
                 have GE220 := n9_
                 have NB203_220 := n10_
                 have NB220_203 := n11_
                 have NB209_220 := n12_
                 have NB220_209 := n13_
                 have NB0_220 := n14_
                 have NB220_0 := n15_
                 clear n0_ n1_ n2_ n3_ n4_ n5_ n6_ n7_ n8_ n9_ n10_ n11_ n12_ n13_ n14_ n15_
                 clear hb hbox hg
                 refine hK.out _ _ (HS0_) (fun hHeld => ?_)
                 clear hK K
                 refine norm_ (a' := ?_) ?_ ?_
                 rotate_left
                 ·show Act.put _ (some 9) _ = _
                  simp only [Act.put, List.setIfInBounds_toArray, List.set_cons_zero, List.set_cons_succ, i64_w, i32_w]
                  rfl
                 exact norm_ u84_ (hCont (gb220) _ ⟨hHeld, u83_, u27_, u12_, u18_, u56_, GW220.out, GE220.out, NB0_220.out, NB220_0.out, NB203_220.out, NB220_203.out, NB209_220.out, NB220_209.out, u33_, u9_, u21_⟩)
                ·skip
                 refine box_step ?hg (N := 9) ?hd (cs := #[.string (⟨#[]⟩ : ByteArray), .string (⟨#[]⟩ : ByteArray)]) (t := 74) ?hr ?_; (case hd => rfl); (case hg => rfl); (case hr => first | (go_simp; done) | (go_simp; rfl))
                 intro gb220 hg w56 hbox hb
                 have HS0_ := (hb.cell (World.block_lt_of_cell? _ _ (hHeld))).trans (hHeld)
                 have n0_ := Aside0.mk (Kd.R_below u27_ hb)
                 have n1_ := Aside0.mk (Kd.R_below (Kd.R_elderB u37_ gb220 (Nat.le_of_eq hg.symm)) hb)
                 have n2_ := Aside0.mk (blk_below (g := gb203) (o := .cells #[.string (⟨#[]⟩ : ByteArray), .slice none 0 0] 37 (0, 0)) u12_ hb)
                 have n3_ := Aside0.mk (blk_below (g := gb209) (o := .cells #[.string t207, u210001] 37 (0, 0)) u18_ hb)
                 have n4_ := Aside0.mk (IsS106.below u29_ hb)
                 have n5_ := Aside0.mk (KeepBut.trans u5_ (KeepBut.of_below hb g none) (.inl rfl))
                 have n6_ := Aside0.mk (below_step u25_ hb)
                 have n7_ := Aside0.mk (hbox)
                 have n8_ := Aside0.mk ((by rw [hg]; exact (keep_size (w := w) (g := g) (row := none) u5_) : w.heap.size ≤ gb220))
                 have n9_ := Aside0.mk ((Nat.le_trans HW0.out (by rw [hg]; exact (keep_size (w := w) (g := g) (row := none) u5_) : w.heap.size ≤ gb220) : w0.heap.size ≤ gb220))
                 have n10_ := Aside0.mk ((by rw [hg]; exact Nat.ne_of_lt (blk_lt (g := gb203) (o := .cells #[.string (⟨#[]⟩ : ByteArray), .slice none 0 0] 37 (0, 0)) u12_) : gb203 ≠ gb220))
                 have n11_ := Aside0.mk ((by rw [hg]; exact Nat.ne_of_gt (blk_lt (g := gb203) (o := .cells #[.string (⟨#[]⟩ : ByteArray), .slice none 0 0] 37 (0, 0)) u12_) : gb220 ≠ gb203))
                 have n12_ := Aside0.mk ((by rw [hg]; exact Nat.ne_of_lt (blk_lt (g := gb209) (o := .cells #[.string t207, u210001] 37 (0, 0)) u18_) : gb209 ≠ gb220))
                 have n13_ := Aside0.mk ((by rw [hg]; exact Nat.ne_of_gt (blk_lt (g := gb209) (o := .cells #[.string t207, u210001] 37 (0, 0)) u18_) : gb220 ≠ gb209))
                 have n14_ := Aside0.mk ((by rw [hg]; exact Nat.ne_of_lt (IsS106.lt (show IsS106 w0 _ g s0_0 x1001_17 from by repeat (first | (with_reducible first | exact HI0.out | apply IsS106.alloc | apply IsS106.drewN | apply IsS106.drew | apply IsS106.set_1 | refine IsS106.far ?_ NB0_203.out _ | refine IsS106.far ?_ NB0_209.out _) | exact HI0.out))) : g ≠ gb220))
                 have n15_ := Aside0.mk ((by rw [hg]; exact Nat.ne_of_gt (IsS106.lt (show IsS106 w0 _ g s0_0 x1001_17 from by repeat (first | (with_reducible first | exact HI0.out | apply IsS106.alloc | apply IsS106.drewN | apply IsS106.drew | apply IsS106.set_1 | refine IsS106.far ?_ NB0_203.out _ | refine IsS106.far ?_ NB0_209.out _) | exact HI0.out))) : gb220 ≠ g))
                 clear HO_6
                 clear HO_210001
                 clear BK203
                 clear BK209
                 clear HI0
                 clear HK
                 clear HB
                 have HO_6 := n0_
                 have HO_210001 := n1_
                 have BK203 := n2_
                 have BK209 := n3_
                 have HI0 := n4_
                 have HK := n5_
                 have HB := n6_
                 have BK220 := n7_
                 have GW220 := n8_
                 have GE220 := n9_
                 have NB203_220 := n10_
                 have NB220_203 := n11_
                 have NB209_220 := n12_
                 have NB220_209 := n13_
                 have NB0_220 := n14_
                 have NB220_0 := n15_
                 clear n0_ n1_ n2_ n3_ n4_ n5_ n6_ n7_ n8_ n9_ n10_ n11_ n12_ n13_ n14_ n15_
                 clear hb hbox hg
                 refine hK.out _ _ (HS0_) (fun hHeld => ?_)
                 clear hK K
                 refine norm_ (a' := ?_) ?_ ?_
                 rotate_left
                 ·show Act.put _ (some 9) _ = _
                  simp only [Act.put, List.setIfInBounds_toArray, List.set_cons_zero, List.set_cons_succ, i64_w, i32_w]
                  rfl
                 refine one_ (i := 5) (N := some 39) #[true, true, true, true, true, true, false, true, false] rfl rfl (one_of HT_.out u17_) u39_ (fun K hK => ?_)
                 refine goes_ Tryd.func90 u17_ rfl #[.pointer (some ⟨g, 0, none⟩)] u67_ rfl rfl u0_ ?_
                 with_reducible refine (spec_l11Text.calls kj17 g s0_0 x1001_17 t218 t219 w0 _ ?side1 ?side2 A26.out).mono ?_
                 (case side1 => repeat (first | (with_reducible first | exact HI0.out | apply IsS106.alloc | apply IsS106.drewN | apply IsS106.drew | apply IsS106.set_1 | refine IsS106.far ?_ NB0_203.out _ | refine IsS106.far ?_ NB0_209.out _ | refine IsS106.far ?_ NB0_220.out _) | exact HI0.out))
                 (case side2 => repeat (first | (with_reducible first | exact HB.out | apply below_alloc | apply pw_below_drewN | apply below_drew1 | refine below_set ?_ (IsS106.ge HI0.out) | refine below_set ?_ GE203.out | refine below_set ?_ GE209.out | refine below_set ?_ GE220.out) | exact HB.out))
                 rintro e w57 ⟨rfl, hi, hb, hk⟩
                 have HS0_ := keep_cell hk (hHeld) u119_
                 refine ⟨_, rfl, ?_⟩
                 have n0_ := Aside0.mk (Kd.R_mono (Kd.R_keep (IsS106.apart (show IsS106 w0 _ g s0_0 x1001_17 from by repeat (first | (with_reducible first | exact HI0.out | apply IsS106.alloc | apply IsS106.drewN | apply IsS106.drew | apply IsS106.set_1 | refine IsS106.far ?_ NB0_203.out _ | refine IsS106.far ?_ NB0_209.out _ | refine IsS106.far ?_ NB0_220.out _) | exact HI0.out)) u27_ u39_) hk (fun _ h => h.2)) (fun _ h => h.1))
                 have n1_ := Aside0.mk (Kd.R_mono (Kd.R_keep (IsS106.apart (show IsS106 w0 _ g s0_0 x1001_17 from by repeat (first | (with_reducible first | exact HI0.out | apply IsS106.alloc | apply IsS106.drewN | apply IsS106.drew | apply IsS106.set_1 | refine IsS106.far ?_ NB0_203.out _ | refine IsS106.far ?_ NB0_209.out _ | refine IsS106.far ?_ NB0_220.out _) | exact HI0.out)) u37_ u39_) hk (fun _ h => h.2)) (fun _ h => h.1))
                 have n2_ := Aside0.mk (KeepBut.blk hk (g' := gb203) (o := .cells #[.string (⟨#[]⟩ : ByteArray), .slice none 0 0] 37 (0, 0)) u12_ NB203_0.out u89_)
                 have n3_ := Aside0.mk (KeepBut.blk hk (g' := gb209) (o := .cells #[.string t207, u210001] 37 (0, 0)) u18_ NB209_0.out u89_)
                 have n4_ := Aside0.mk (KeepBut.blk hk (g' := gb220) (o := .cells #[.string (⟨#[]⟩ : ByteArray), .string (⟨#[]⟩ : ByteArray)] 74 (0, 0)) u56_ NB220_0.out u89_)
                 have n5_ := Aside0.mk (KeepBut.trans u9_ hk (.inl rfl))
                 have n6_ := Aside0.mk (hb)
                 have n7_ := Aside0.mk (hi)
                 clear HO_6
                 clear HO_210001
                 clear BK203
                 clear BK209
                 clear BK220
                 clear HK
                 clear HB
                 clear HI0
                 have HO_6 := n0_
                 have HO_210001 := n1_
                 have BK203 := n2_
                 have BK209 := n3_
                 have BK220 := n4_
                 have HK := n5_
                 have HB := n6_
                 have HI0 := n7_
                 clear n0_ n1_ n2_ n3_ n4_ n5_ n6_ n7_
                 (try clear hb)
                 (try clear hb2)
                 (try clear hk)
                 (try clear hi)
                 refine hK.out _ _ (HS0_) (fun hHeld => ?_)
                 clear hK K
                 refine norm_ (a' := ?_) ?_ ?_
                 rotate_left
                 ·show Act.put _ (some 39) _ = _
                  simp only [Act.put, List.setIfInBounds_toArray, List.set_cons_zero, List.set_cons_succ, i64_w, i32_w]
                  rfl
                 refine pure_ (i := 6) (N := some 40) (v := ?_) (a' := ?_) #[true, true, true, true, true, true, true, true, false] rfl rfl (any_of HT_.out u17_) (fun _ _ _ h => h) (Or.inl ⟨u67_, ?_⟩) ?_ ?_
                 rotate_left
                 ·intro w'
                  go_simp
                  with_reducible rfl
                 rotate_left
                 ·simp only [Act.put, List.setIfInBounds_toArray, List.set_cons_zero, List.set_cons_succ, i64_w, i32_w]
                  rfl
                 exact norm_ u84_ (hCont (gb220) _ ⟨hHeld, u83_, u27_, u12_, u18_, u56_, GW220.out, GE220.out, NB0_220.out, NB220_0.out, NB203_220.out, NB220_203.out, NB209_220.out, NB220_209.out, u33_, u9_, u21_⟩)
               rintro gb220 w58 ⟨hS_, h0_, h1_, h2_, h3_, h4_, h5_, h6_, h7_, h8_, h9_, h10_, h11_, h12_, h13_, h14_, h15_⟩
               have n0_ : Aside0 (Kd.R k74 74 w58 w.heap.size (fun k_ => k_ ≠ gb220) u210001 x210001_1) := ⟨h0_⟩
               have n1_ : Aside0 (Kd.R Kd.string 9 w58 w.heap.size (fun _ => True) (.slice (some ad213) y210.length co19) y210) := ⟨h1_⟩
               have n2_ : Aside0 (w58.heap[gb203]? = some (.cells #[.string (⟨#[]⟩ : ByteArray), .slice none 0 0] 37 (0, 0))) := ⟨h2_⟩
               have n3_ : Aside0 (w58.heap[gb209]? = some (.cells #[.string t207, u210001] 37 (0, 0))) := ⟨h3_⟩
               have n4_ : Aside0 (w58.heap[gb220]? = some (.cells #[.string (⟨#[]⟩ : ByteArray), .string (⟨#[]⟩ : ByteArray)] 74 (0, 0))) := ⟨h4_⟩
               have n5_ : Aside0 (w.heap.size ≤ gb220) := ⟨h5_⟩
               have n6_ : Aside0 (w0.heap.size ≤ gb220) := ⟨h6_⟩
               have n7_ : Aside0 (g ≠ gb220) := ⟨h7_⟩
               have n8_ : Aside0 (gb220 ≠ g) := ⟨h8_⟩
               have n9_ : Aside0 (gb203 ≠ gb220) := ⟨h9_⟩
               have n10_ : Aside0 (gb220 ≠ gb203) := ⟨h10_⟩
               have n11_ : Aside0 (gb209 ≠ gb220) := ⟨h11_⟩
               have n12_ : Aside0 (gb220 ≠ gb209) := ⟨h12_⟩
               have n13_ : Aside0 (IsS106 w0 w58 g s0_0 t219) := ⟨h13_⟩
               have n14_ : Aside0 (KeepBut w w58 g none) := ⟨h14_⟩
               have n15_ : Aside0 (Below w0.heap.size w0 w58) := ⟨h15_⟩
               clear HO_6
               clear HO_210001
               clear BK203
               clear BK209
               clear HI0
               clear HK
               clear HB
               clear h0_ h1_ h2_ h3_ h4_ h5_ h6_ h7_ h8_ h9_ h10_ h11_ h12_ h13_ h14_ h15_
               have HO_210001 := n0_
               have HO_6 := n1_
               have BK203 := n2_
               have BK209 := n3_
               have BK220 := n4_
               have GW220 := n5_
               have GE220 := n6_
               have NB0_220 := n7_
               have NB220_0 := n8_
               have NB203_220 := n9_
               have NB220_203 := n10_
               have NB209_220 := n11_
               have NB220_209 := n12_
               have HI0 := n13_
               have HK := n14_
               have HB := n15_
               clear n0_ n1_ n2_ n3_ n4_ n5_ n6_ n7_ n8_ n9_ n10_ n11_ n12_ n13_ n14_ n15_
               have hHeld : w58.cell? (ad213.add (x7_1).toNat) = some (.string (rdOf ByteArray.empty y210 x7_1)) := hS_
               refine norm_ (a' := ?_) ?_ ?_
               rotate_left
               ·simp only [putAll, Act.put, List.setIfInBounds_toArray, List.set_cons_zero, List.set_cons_succ]
                rfl
               refine one_ (i := 8) (N := none) #[true, true, true, true, true, true, true, true, true] rfl rfl (one_of HT_.out u17_) u39_ (fun K hK => ?_)
               have hs59 : w58.cell? ⟨gb220, 0, none⟩ = some (.string (⟨#[]⟩ : ByteArray)) := (blk_cell BK220.out 0).trans rfl
               have hfs59 := blk_frozen BK220.out 0
               have hns59_0 := NB203_220.out
               have hns59_1 := NB209_220.out
               have hms59_0 := NB220_203.out
               have hms59_1 := NB220_209.out
               have hs60 : w58.cell? ⟨gb220, 1, none⟩ = some (.string (⟨#[]⟩ : ByteArray)) := (blk_cell BK220.out 1).trans rfl
               have hfs60 := blk_frozen BK220.out 1
               have hns60_0 := NB203_220.out
               have hns60_1 := NB209_220.out
               have hms60_0 := NB220_203.out
               have hms60_1 := NB220_209.out
               refine skip_ (w1 := ?_) u67_ rfl ?_ ?_
               rotate_left
               ·go_simp
                rfl
               refine hK.out _ _ (((cell_far (p := ⟨gb220, _, none⟩) u141_ _).trans (((cell_far (p := ⟨gb220, _, none⟩) u141_ _).trans (hHeld))))) (fun hHeld => ?_)
               clear hK K
               refine done_ (done_of HT_.out u17_) ?_
               have p221 : 0 ≤ (t214 : Int) := of_decide_eq_true u1_
               have q221 : t214 < (l1.length : Int) := of_decide_eq_true u1_
               obtain ⟨ad221, e221, hx221_0, hx221_1, hx221_2⟩ := at_T32 (Kd.C_foot_now HR1.out (show KeepBut w ((w58.setCell ⟨gb220, 0, none⟩ (.string (rdOf ByteArray.empty y210 x7_1))).setCell ⟨gb220, 1, none⟩ (.string t218)) g none from by repeat (first | (with_reducible first | exact HK.out | apply KeepBut.set_ | apply keep_drewN | apply keep_drew | apply keep_alloc | refine keep_far ?_ GW203.out _ | refine keep_far ?_ GW209.out _ | refine keep_far ?_ GW220.out _) | exact HK.out))) t214 p221 q221
               cases e221
               replace p221 := eq_true p221
               replace q221 := eq_true q221
               try go_wp2_with (first | ((with_reducible refine gate_dst (N := 55) rfl ?_); refine Kd.R_lit Kd.string _ 9 ?hg (N := 55) ?hd (xs := ([(⟨#[114, 101, 100]⟩ : ByteArray), (⟨#[98, 108, 117, 101]⟩ : ByteArray), (⟨#[114, 101, 100, 44, 98, 108, 117, 101]⟩ : ByteArray), (⟨#[98, 108, 117, 101, 44, 114, 101, 100, 44, 114, 101, 100]⟩ : ByteArray), (⟨#[103, 114, 101, 101, 110]⟩ : ByteArray)] : List ByteArray)) (inner := [.string (⟨#[114, 101, 100]⟩ : ByteArray), .string (⟨#[98, 108, 117, 101]⟩ : ByteArray), .string (⟨#[114, 101, 100, 44, 98, 108, 117, 101]⟩ : ByteArray), .string (⟨#[98, 108, 117, 101, 44, 114, 101, 100, 44, 114, 101, 100]⟩ : ByteArray), .string (⟨#[103, 114, 101, 101, 110]⟩ : ByteArray)]) (ok := fun _ => True) (okp := fun _ => True) ?hr ?hp (fun _ hk => hk) trivial (Below.refl _ _) (Nat.le_refl _) u89_ ?_; (case hd => rfl); (case hg => rfl); (case hr => first | (go_simp; done) | (go_simp; rfl)); (case hp => exact (Reps.one (show Kd.M Kd.string _ _ _ (⟨#[114, 101, 100]⟩ : ByteArray) [.string (⟨#[114, 101, 100]⟩ : ByteArray)] from rfl) (Reps.one (show Kd.M Kd.string _ _ _ (⟨#[98, 108, 117, 101]⟩ : ByteArray) [.string (⟨#[98, 108, 117, 101]⟩ : ByteArray)] from rfl) (Reps.one (show Kd.M Kd.string _ _ _ (⟨#[114, 101, 100, 44, 98, 108, 117, 101]⟩ : ByteArray) [.string (⟨#[114, 101, 100, 44, 98, 108, 117, 101]⟩ : ByteArray)] from rfl) (Reps.one (show Kd.M Kd.string _ _ _ (⟨#[98, 108, 117, 101, 44, 114, 101, 100, 44, 114, 101, 100]⟩ : ByteArray) [.string (⟨#[98, 108, 117, 101, 44, 114, 101, 100, 44, 114, 101, 100]⟩ : ByteArray)] from rfl) (Reps.one (show Kd.M Kd.string _ _ _ (⟨#[103, 114, 101, 101, 110]⟩ : ByteArray) [.string (⟨#[103, 114, 101, 101, 110]⟩ : ByteArray)] from rfl) (Reps.none _ _))))))); intro v231 w61 ho62 hb hg_ hnew_; clear hg_ hnew_; (first | rw [← Ny230.out] at ho62 | (simp only [Int.reduceToNat] at ho62; rw [← Ny230.out] at ho62)); have n0_ := Aside0.mk (Kd.R_elder' u118_ (Kd.R_base ho62) hb); have n1_ := Aside0.mk (Kd.R_below u81_ hb); have n2_ := Aside0.mk (Kd.R_lower (Kd.R_new' ho62 (Kd.R_lt u118_)) (keep_size (w := w) (g := g) (row := none) u9_)); have n3_ := Aside0.mk (blk_below (g := gb203) (o := .cells #[.string (⟨#[]⟩ : ByteArray), .slice none 0 0] 37 (0, 0)) u75_ hb); have n4_ := Aside0.mk (blk_below (g := gb209) (o := .cells #[.string t207, u210001] 37 (0, 0)) u76_ hb); have n5_ := Aside0.mk (IsS106.below (show IsS106 w0 ((w58.setCell ⟨gb220, 0, none⟩ (.string (rdOf ByteArray.empty y210 x7_1))).setCell ⟨gb220, 1, none⟩ (.string t218)) g s0_0 t219 from by repeat (first | (with_reducible first | exact HI0.out | apply IsS106.alloc | apply IsS106.drewN | apply IsS106.drew | apply IsS106.set_1 | refine IsS106.far ?_ NB0_203.out _ | refine IsS106.far ?_ NB0_209.out _ | refine IsS106.far ?_ NB0_220.out _) | exact HI0.out)) hb); have n6_ := Aside0.mk (blk_below (g := gb220) (o := .cells #[.string (rdOf ByteArray.empty y210 x7_1), .string t218] 74 (0, 0)) u40_ hb); have n7_ := Aside0.mk (KeepBut.trans u9_ (KeepBut.of_below hb g none) (.inl rfl)); have n8_ := Aside0.mk (below_step u21_ hb); clear HO_6; clear HO_210001; clear BK203; clear BK209; clear HI0; clear BK220; clear HK; clear HB; have HO_6 := n0_; have HO_210001 := n1_; have HO232 := n2_; have BK203 := n3_; have BK209 := n4_; have HI0 := n5_; have BK220 := n6_; have HK := n7_; have HB := n8_; clear n0_ n1_ n2_ n3_ n4_ n5_ n6_ n7_ n8_; clear hb ho62; obtain ⟨Ao63, co63, eo63⟩ := Kd.R_slice HO232.out; subst eo63) | ((with_reducible refine gate_callee (f := 78) rfl ?_); refine goesL_ (some 56) rfl rfl Tryd.func78 u17_ rfl #[.pointer (some ⟨g, 0, none⟩), .slice Ao63 y230.length co63] rfl u0_ ?_; (with_reducible refine (spec_l1Rd_of.calls kj17 g s0_0 t219 _ _ y230 t233 t234 w0 _ ?side1 ?side2 ?side3 ?side4 ?side5 A53.out).mono ?_); (case side1 => repeat (first | (with_reducible first | exact HI0.out | apply IsS106.alloc | apply IsS106.drewN | apply IsS106.drew | apply IsS106.set_1 | refine IsS106.far ?_ NB0_203.out _ | refine IsS106.far ?_ NB0_209.out _ | refine IsS106.far ?_ NB0_220.out _) | exact HI0.out)); (case side2 => repeat (first | (with_reducible first | exact HB.out | apply below_alloc | apply pw_below_drewN | apply below_drew1 | refine below_set ?_ (IsS106.ge HI0.out) | refine below_set ?_ GE203.out | refine below_set ?_ GE209.out | refine below_set ?_ GE220.out) | exact HB.out)); (case side3 => repeat (first | exact (Kd.R_reads' HO232.out).2.2 | (with_reducible refine Kd.C_alloc ?_ _) | (with_reducible refine Kd.C_drewN ?_ _) | (with_reducible refine Kd.C_drew ?_))); (case side4 => exact (Kd.R_reads' HO232.out).2.1); (case side5 => exact far_slice (IsS106.own_ne HI0.out HO232.out u39_)); rintro e w64 ⟨rfl, hi, hb, hk⟩; refine ⟨_, rfl, ?_⟩; have n0_ := Aside0.mk (Kd.R_mono (Kd.R_keep (IsS106.apart (show IsS106 w0 _ g s0_0 t219 from by repeat (first | (with_reducible first | exact HI0.out | apply IsS106.alloc | apply IsS106.drewN | apply IsS106.drew | apply IsS106.set_1 | refine IsS106.far ?_ NB0_203.out _ | refine IsS106.far ?_ NB0_209.out _ | refine IsS106.far ?_ NB0_220.out _) | exact HI0.out)) u27_ u39_) hk (fun _ h => h.2)) (fun _ h => h.1)); have n1_ := Aside0.mk (Kd.R_mono (Kd.R_keep (IsS106.apart (show IsS106 w0 _ g s0_0 t219 from by repeat (first | (with_reducible first | exact HI0.out | apply IsS106.alloc | apply IsS106.drewN | apply IsS106.drew | apply IsS106.set_1 | refine IsS106.far ?_ NB0_203.out _ | refine IsS106.far ?_ NB0_209.out _ | refine IsS106.far ?_ NB0_220.out _) | exact HI0.out)) u37_ u39_) hk (fun _ h => h.2)) (fun _ h => h.1)); have n2_ := Aside0.mk (KeepBut.blk hk (g' := gb203) (o := .cells #[.string (⟨#[]⟩ : ByteArray), .slice none 0 0] 37 (0, 0)) u12_ NB203_0.out u89_); have n3_ := Aside0.mk (KeepBut.blk hk (g' := gb209) (o := .cells #[.string t207, u210001] 37 (0, 0)) u18_ NB209_0.out u89_); have n4_ := Aside0.mk (KeepBut.blk hk (g' := gb220) (o := .cells #[.string (rdOf ByteArray.empty y210 x7_1), .string t218] 74 (0, 0)) u56_ NB220_0.out u89_); have n5_ := Aside0.mk (Kd.R_mono (Kd.R_keep (IsS106.apart (show IsS106 w0 _ g s0_0 t219 from by repeat (first | (with_reducible first | exact HI0.out | apply IsS106.alloc | apply IsS106.drewN | apply IsS106.drew | apply IsS106.set_1 | refine IsS106.far ?_ NB0_203.out _ | refine IsS106.far ?_ NB0_209.out _ | refine IsS106.far ?_ NB0_220.out _) | exact HI0.out)) (by (with_reducible repeat (first | apply Kd.R_alloc | apply Kd.R_drewN | apply Kd.R_drew)); exact HO232.out) u39_) hk (fun _ h => h.2)) (fun _ h => h.1)); have n6_ := Aside0.mk (KeepBut.trans u9_ hk (.inl rfl)); have n7_ := Aside0.mk (hb); have n8_ := Aside0.mk (hi); clear HO_6; clear HO_210001; clear BK203; clear BK209; clear BK220; clear HO232; clear HK; clear HB; clear HI0; have HO_6 := n0_; have HO_210001 := n1_; have BK203 := n2_; have BK209 := n3_; have BK220 := n4_; have HO232 := n5_; have HK := n6_; have HB := n7_; have HI0 := n8_; clear n0_ n1_ n2_ n3_ n4_ n5_ n6_ n7_ n8_; (try clear hb); (try clear hb2); (try clear hk); (try clear hi); have hnb65 := NB220_203.out; have hnc65 := NB203_220.out; have hnb66 := NB220_209.out; have hnc66 := NB209_220.out; have hnb67 := NB220_0.out; have hnc67 := NB0_220.out; have hcz68_0 : w64.cell? ⟨gb220, 0, none⟩ = some (.string (rdOf ByteArray.empty y210 x7_1)) := (blk_cell BK220.out 0).trans rfl; have hcz68_1 : w64.cell? ⟨gb220, 1, none⟩ = some (.string t218) := (blk_cell BK220.out 1).trans rfl; have hfz68_0 := blk_frozen BK220.out 0; have hfz68_1 := blk_frozen BK220.out 1; have hnb69 := NB209_203.out; have hnc69 := NB203_209.out; have hnb70 := NB209_0.out; have hnc70 := NB0_209.out; have hcz71_0 : w64.cell? ⟨gb209, 0, none⟩ = some (.string t207) := (blk_cell BK209.out 0).trans rfl; have hcz71_1 : w64.cell? ⟨gb209, 1, none⟩ = some (u210001) := (blk_cell BK209.out 1).trans rfl; have hfz71_0 := blk_frozen BK209.out 0; have hfz71_1 := blk_frozen BK209.out 1) | ((with_reducible refine gate_builtin (b := .append) (xs := #[.tmp 59, .tmp 61]) rfl ?_); at_builtin; refine Kd.R_append k74 w.heap.size rfl (.tmp 59) (.tmp 61) 35 74 (.agg #[(.string ⟨#[]⟩), (.string ⟨#[]⟩)]) 32 rfl Tryd.underlying35 info74 rfl u39_ (by omega) u210001 x210001_1 (⟨rdOf ByteArray.empty y210 x7_1, t233⟩ : S74) [.string (rdOf ByteArray.empty y210 x7_1), .string t233] (fun k_ => k_ ≠ gb220) (fun _ => False) rfl (by first | (go_simp; done) | (go_simp; rfl)) ?aP (fun _ hk => hk.elim) ?aF ?aO (Below.refl _ _) ?aS ?aL ?_; (case aP => exact k74_mkM _ _ _ (⟨rdOf ByteArray.empty y210 x7_1, t233⟩ : S74)); (case aF => exact (fun k_ hk => Kd.freshB (g := gb220) (o := .cells #[.string (rdOf ByteArray.empty y210 x7_1), .string t233] 74 (0, 0)) u65_ k_ hk)); (case aO => exact (by (with_reducible repeat (first | apply Kd.R_alloc | apply Kd.R_drewN | apply Kd.R_drew)); exact Kd.R_mono (Kd.R_far (p := ⟨gb220, 1, none⟩) (Kd.R_mono HO_210001.out (fun k_ hk => (⟨hk, hk⟩ : _ ∧ k_ ≠ gb220))) (fun _ hk => hk.2) (.string t233)) (fun _ hk => hk.1))); (case aS => exact (keep_size (w := w) (g := g) (row := none) u9_)); (case aL => have := LMc54.out; omega); intro v236 w72 ho hb hg hat; rw [← Ny235.out] at ho; have n0_ := Aside0.mk (Kd.R_over' (by (with_reducible repeat (first | apply Kd.R_alloc | apply Kd.R_drewN | apply Kd.R_drew)); exact (Kd.R_mono (Kd.R_far (p := ⟨gb220, 1, none⟩) (Kd.R_types HO_6.out BK220.out u39_) (fun _ hk => hk.2) (.string t233)) (fun _ h_ => h_.1))) (Kd.R_typed u109_) u39_ hg); have n1_ := Aside0.mk (blk_grown (g := gb203) (o := .cells #[.string (⟨#[]⟩ : ByteArray), .slice none 0 0] 37 (0, 0)) u110_ hg (Kd.R_ne HO_210001.out BK203.out u39_)); have n2_ := Aside0.mk (blk_grown (g := gb209) (o := .cells #[.string t207, u210001] 37 (0, 0)) u111_ hg (Kd.R_ne HO_210001.out BK209.out u39_)); have n3_ := Aside0.mk (IsS106.grown (show IsS106 w0 _ g s0_0 t234 from by repeat (first | (with_reducible first | exact HI0.out | apply IsS106.alloc | apply IsS106.drewN | apply IsS106.drew | apply IsS106.set_1 | refine IsS106.far ?_ NB0_203.out _ | refine IsS106.far ?_ NB0_209.out _ | refine IsS106.far ?_ NB0_220.out _) | exact HI0.out)) hg (IsS106.own_ne HI0.out HO_210001.out u39_)); have n4_ := Aside0.mk (blk_grown (g := gb220) (o := .cells #[.string (rdOf ByteArray.empty y210 x7_1), .string t233] 74 (0, 0)) u65_ hg (Kd.R_away HO_210001.out (fun _ hk => hk))); have n5_ := Aside0.mk (Kd.R_over' (by (with_reducible repeat (first | apply Kd.R_alloc | apply Kd.R_drewN | apply Kd.R_drew)); exact (Kd.R_mono (Kd.R_far (p := ⟨gb220, 1, none⟩) (Kd.R_types HO232.out BK220.out u39_) (fun _ hk => hk.2) (.string t233)) (fun _ h_ => h_.1))) (Kd.R_typed u109_) u39_ hg); have n6_ := Aside0.mk (below_weaken u21_ HL.out hb); have n7_ := Aside0.mk (KeepBut.trans u9_ (KeepBut.of_grown hg g) (Kd.R_base2 HO_210001.out)); have n8_ := Aside0.mk (ho); clear HO_6; clear BK203; clear BK209; clear HI0; clear BK220; clear HO232; clear HB; clear HK; clear HO_210001; have HO_6 := n0_; have BK203 := n1_; have BK209 := n2_; have HI0 := n3_; have BK220 := n4_; have HO232 := n5_; have HB := n6_; have HK := n7_; have HO237 := n8_; clear n0_ n1_ n2_ n3_ n4_ n5_ n6_ n7_ n8_; clear ho hb hg hat; obtain ⟨Ao73, co73, eo73⟩ := Kd.R_slice HO237.out; subst eo73; have hcz74_0 : w72.cell? ⟨gb209, 0, none⟩ = some (.string t207) := (blk_cell BK209.out 0).trans rfl; have hcz74_1 : w72.cell? ⟨gb209, 1, none⟩ = some (u210001) := (blk_cell BK209.out 1).trans rfl; have hfz74_0 := blk_frozen BK209.out 0; have hfz74_1 := blk_frozen BK209.out 1))
               go_roundg kj17
               case measure => have := HK1.out; have := HJ17.out; omega
               case rel => exact ⟨(wrap64 (x7_1 + 1)), (t234), (y235), (.slice Ao73 y235.length co73), u22_, H', ⟨by have := HK1.out; have := HJ17.out; omega⟩, ⟨by (with_reducible repeat (first | apply Kd.R_alloc | apply Kd.R_drewN | apply Kd.R_drew)); exact Kd.R_mono (Kd.R_far (p := ⟨gb209, 1, none⟩) (Kd.R_types HO_6.out BK209.out u39_) (fun _ hk => hk.2) (.slice Ao73 y235.length co73)) (fun _ hk => trivial)⟩, ⟨by (with_reducible repeat (first | apply Kd.R_alloc | apply Kd.R_drewN | apply Kd.R_drew)); exact Kd.R_mono (Kd.R_far (p := ⟨gb209, 1, none⟩) (Kd.R_types HO237.out BK209.out u39_) (fun _ hk => hk.2) (.slice Ao73 y235.length co73)) (fun _ hk => trivial)⟩, ⟨u93_⟩, ⟨u91_⟩, ⟨u33_⟩, ⟨u9_⟩, ⟨u21_⟩⟩
              ·rw [if_neg c54] at H
               exact absurd H u89_
             ·rw [if_neg c52] at H
              have c52b0 : (((rd_T32 l1 t214).f1) == 3) = false := beq_eq_false_iff_ne.mpr c52
              have c52b1 : (((rd_T32 l1 t214).f1) != 3) = true := bne_iff_ne.mpr c52
              by_cases c75 : x210001_1.length < 4398046511104
              ·rw [if_pos c75] at H
               have LMc75 := Aside0.mk c75
               clear c75
               obtain ⟨y238, hy238⟩ : ∃ y_ : List (S74), y_ = (x210001_1 ++ [(⟨rdOf ByteArray.empty y210 x7_1, t218⟩ : S74)]) := ⟨_, rfl⟩
               replace H : (spec_l11Doc.l0 kj17 l1 y210 (wrap64 (x7_1 + 1)) s0_0 t219 t207 y238) = some (r1, r2, r3) := by first | (rw [hy238]; with_reducible exact H) | (have H2_ := (Option.bind_some _ _).symm.trans H; rw [hy238]; with_reducible exact H2_) | (have H2_ := (Option.bind_some _ _).symm.trans H; with_reducible exact H2_) | with_reducible exact H | (rw [hy238]; exact H) | exact H
               have Ny238 := Aside0.mk hy238
               clear hy238
               have H' := Aside0.mk H
               clear H
               try go_wp2
               have n0_ := Aside0.mk (Kd.R_drew HO_6.out)
               have n1_ := Aside0.mk (Kd.R_drew HO_210001.out)
               have n2_ := Aside0.mk (blk_drew BK203.out)
               have n3_ := Aside0.mk (blk_drew BK209.out)
               have n4_ := Aside0.mk (IsS106.drew HI0.out)
               have n5_ := Aside0.mk (keep_drew HK.out)
               have n6_ := Aside0.mk (below_drew1 HB.out)
               clear HO_6
               clear HO_210001
               clear BK203
               clear BK209
               clear HI0
               clear HK
               clear HB
               have HO_6 := n0_
               have HO_210001 := n1_
               have BK203 := n2_
               have BK209 := n3_
               have HI0 := n4_
               have HK := n5_
               have HB := n6_
               clear n0_ n1_ n2_ n3_ n4_ n5_ n6_
               have p217 : 0 ≤ (x7_1 : Int) := of_decide_eq_true u1_
               have q217 : x7_1 < (y210.length : Int) := of_decide_eq_true u1_
               obtain ⟨ad217, e217, hx217_0⟩ := Kd.at_string (Kd.R_reads' HO_6.out).2.2 x7_1 p217 q217
               obtain rfl : ad213 = ad217 := (by injection e217)
               replace p217 := eq_true p217
               replace q217 := eq_true q217
               refine start_ (n := 9) (S := fun w' => w'.cell? (ad213.add (x7_1).toNat) = some (.string (rdOf ByteArray.empty y210 x7_1))) (ds := []) #[false, false, false, false, false, false, false, false, false] u17_ rfl rfl (hx217_0) (fun hHeld => ?_); refine with_tabW spec_l11Doc.tab8 spec_l11Doc.bits8 (fun HT_ HW_ => ?_)
               generalize wc.drew = w76 at HO_6 HO_210001 BK203 BK209 HI0 HK HB hx217_0 hHeld ⊢
               refine pure_ (i := 0) (N := some 34) (v := ?_) (a' := ?_) #[true, false, false, false, false, false, false, false, false] rfl rfl (any_of HT_.out u17_) (fun _ _ _ h => h) (Or.inl ⟨u67_, ?_⟩) ?_ ?_
               rotate_left
               ·intro w'
                go_simp
                with_reducible rfl
               rotate_left
               ·simp only [Act.put, List.setIfInBounds_toArray, List.set_cons_zero, List.set_cons_succ, i64_w, i32_w]
                rfl
               refine pure_ (i := 1) (N := some 35) (v := ?_) (a' := ?_) #[true, true, false, false, false, false, false, false, false] rfl rfl (any_of HT_.out u17_) (fun _ _ _ h => h) (Or.inl ⟨u67_, ?_⟩) ?_ ?_
               rotate_left
               ·intro w'
                go_simp
                with_reducible rfl
               rotate_left
               ·simp only [Act.put, List.setIfInBounds_toArray, List.set_cons_zero, List.set_cons_succ, i64_w, i32_w]
                rfl
               refine pure_ (i := 2) (N := some 36) (v := ?_) (a' := ?_) #[true, true, true, false, false, false, false, false, false] rfl rfl (any_of HT_.out u17_) (fun _ _ _ h => h) (Or.inl ⟨u67_, ?_⟩) ?_ ?_
               rotate_left
               ·intro w'
                go_simp
                with_reducible rfl
               rotate_left
               ·simp only [Act.put, List.setIfInBounds_toArray, List.set_cons_zero, List.set_cons_succ, i64_w, i32_w]
                rfl
               refine pure_ (i := 4) (N := some 38) (v := ?_) (a' := ?_) #[true, true, true, false, true, false, false, false, false] rfl rfl (any_of HT_.out u17_) (fun _ _ _ h => h) (Or.inl ⟨u67_, ?_⟩) ?_ ?_
               rotate_left
               ·intro w'
                go_simp
                with_reducible rfl
               rotate_left
               ·simp only [Act.put, List.setIfInBounds_toArray, List.set_cons_zero, List.set_cons_succ, i64_w, i32_w]
                rfl
               refine take_ (i := 3) (N := some 37) (v := ?_) (a' := ?_) #[true, true, true, true, true, false, false, false, false] rfl rfl (take_ofW HT_.out HW_.out u17_) (fun _ _ _ h => h) (Or.inl ⟨u67_, ?_⟩) hHeld ?_ ?_
               rotate_left
               ·intro w' s0
                go_simp
                with_reducible rfl
               rotate_left
               ·simp only [Act.put, List.setIfInBounds_toArray, List.set_cons_zero, List.set_cons_succ, i64_w, i32_w]
                rfl
               refine join_ (σ := Nat) 1 #[true, true, true, true, true, true, true, true, false] (fun s_ => [(39, .string t218), (9, .pointer (some ⟨s_, 0, none⟩)), (40, .agg #[.string (rdOf ByteArray.empty y210 x7_1), .string t218])]) (fun s_ w' => (w'.cell? (ad213.add (x7_1).toNat) = some (.string (rdOf ByteArray.empty y210 x7_1))) ∧ (Kd.R k74 74 w' w.heap.size (fun k_ => k_ ≠ s_) u210001 x210001_1) ∧ (Kd.R Kd.string 9 w' w.heap.size (fun _ => True) (.slice (some ad213) y210.length co19) y210) ∧ (w'.heap[gb203]? = some (.cells #[.string (⟨#[]⟩ : ByteArray), .slice none 0 0] 37 (0, 0))) ∧ (w'.heap[gb209]? = some (.cells #[.string t207, u210001] 37 (0, 0))) ∧ (w'.heap[s_]? = some (.cells #[.string (⟨#[]⟩ : ByteArray), .string (⟨#[]⟩ : ByteArray)] 74 (0, 0))) ∧ (w.heap.size ≤ s_) ∧ (w0.heap.size ≤ s_) ∧ (g ≠ s_) ∧ (s_ ≠ g) ∧ (gb203 ≠ s_) ∧ (s_ ≠ gb203) ∧ (gb209 ≠ s_) ∧ (s_ ≠ gb209) ∧ (IsS106 w0 w' g s0_0 t219) ∧ (KeepBut w w' g none) ∧ (Below w0.heap.size w0 w')) ?_ ?_
               rotate_left
               ·intro hCont
                refine two_ (i := 5) (j := 7) (Ni := some 39) (Nj := some 9) #[true, true, true, true, true, true, false, false, false] #[true, true, true, true, true, false, false, true, false] rfl rfl rfl rfl (two_of HT_.out u17_) u39_ u39_ (fun K hK => ?_) (fun K hK => ?_)
                ·skip
                 refine goes_ Tryd.func90 u17_ rfl #[.pointer (some ⟨g, 0, none⟩)] u67_ rfl rfl u0_ ?_
                 with_reducible refine (spec_l11Text.calls kj17 g s0_0 x1001_17 t218 t219 w0 _ ?side1 ?side2 A26.out).mono ?_
                 (case side1 => repeat (first | (with_reducible first | exact HI0.out | apply IsS106.alloc | apply IsS106.drewN | apply IsS106.drew | apply IsS106.set_1 | refine IsS106.far ?_ NB0_203.out _ | refine IsS106.far ?_ NB0_209.out _) | exact HI0.out))
                 (case side2 => repeat (first | (with_reducible first | exact HB.out | apply below_alloc | apply pw_below_drewN | apply below_drew1 | refine below_set ?_ (IsS106.ge HI0.out) | refine below_set ?_ GE203.out | refine below_set ?_ GE209.out) | exact HB.out))
                 rintro e w77 ⟨rfl, hi, hb, hk⟩
                 have HS0_ := keep_cell hk (hHeld) u119_
                 refine ⟨_, rfl, ?_⟩
                 have n0_ := Aside0.mk (Kd.R_mono (Kd.R_keep (IsS106.apart (show IsS106 w0 _ g s0_0 x1001_17 from by repeat (first | (with_reducible first | exact HI0.out | apply IsS106.alloc | apply IsS106.drewN | apply IsS106.drew | apply IsS106.set_1 | refine IsS106.far ?_ NB0_203.out _ | refine IsS106.far ?_ NB0_209.out _) | exact HI0.out)) u27_ u39_) hk (fun _ h => h.2)) (fun _ h => h.1))
                 have n1_ := Aside0.mk (Kd.R_mono (Kd.R_keep (IsS106.apart (show IsS106 w0 _ g s0_0 x1001_17 from by repeat (first | (with_reducible first | exact HI0.out | apply IsS106.alloc | apply IsS106.drewN | apply IsS106.drew | apply IsS106.set_1 | refine IsS106.far ?_ NB0_203.out _ | refine IsS106.far ?_ NB0_209.out _) | exact HI0.out)) u37_ u39_) hk (fun _ h => h.2)) (fun _ h => h.1))
                 have n2_ := Aside0.mk (KeepBut.blk hk (g' := gb203) (o := .cells #[.string (⟨#[]⟩ : ByteArray), .slice none 0 0] 37 (0, 0)) u12_ NB203_0.out u89_)
                 have n3_ := Aside0.mk (KeepBut.blk hk (g' := gb209) (o := .cells #[.string t207, u210001] 37 (0, 0)) u18_ NB209_0.out u89_)
                 have n4_ := Aside0.mk (KeepBut.trans u5_ hk (.inl rfl))
                 have n5_ := Aside0.mk (hb)
                 have n6_ := Aside0.mk (hi)
                 clear HO_6
                 clear HO_210001
                 clear BK203
                 clear BK209
                 clear HK
                 clear HB
                 clear HI0
                 have HO_6 := n0_
                 have HO_210001 := n1_
                 have BK203 := n2_
                 have BK209 := n3_
                 have HK := n4_
                 have HB := n5_
                 have HI0 := n6_
                 clear n0_ n1_ n2_ n3_ n4_ n5_ n6_
                 (try clear hb)
                 (try clear hb2)
                 (try clear hk)
                 (try clear hi)
                 refine hK.out _ _ (HS0_) (fun hHeld => ?_)
                 clear hK K
                 refine norm_ (a' := ?_) ?_ ?_
                 rotate_left
                 ·show Act.put _ (some 39) _ = _
                  simp only [Act.put, List.setIfInBounds_toArray, List.set_cons_zero, List.set_cons_succ, i64_w, i32_w]
                  rfl
                 refine pure_ (i := 6) (N := some 40) (v := ?_) (a' := ?_) #[true, true, true, true, true, true, true, false, false] rfl rfl (any_of HT_.out u17_) (fun _ _ _ h => h) (Or.inl ⟨u67_, ?_⟩) ?_ ?_
                 rotate_left
                 ·intro w'
                  go_simp
                  with_reducible rfl
                 rotate_left
                 ·simp only [Act.put, List.setIfInBounds_toArray, List.set_cons_zero, List.set_cons_succ, i64_w, i32_w]
                  rfl
                 refine one_ (i := 7) (N := some 9) #[true, true, true, true, true, true, true, true, false] rfl rfl (one_of HT_.out u17_) u39_ (fun K hK => ?_)
                 refine box_step ?hg (N := 9) ?hd (cs := #[.string (⟨#[]⟩ : ByteArray), .string (⟨#[]⟩ : ByteArray)]) (t := 74) ?hr ?_; (case hd => rfl); (case hg => rfl); (case hr => first | (go_simp; done) | (go_simp; rfl))
                 intro gb220 hg w78 hbox hb
                 have HS0_ := (hb.cell (World.block_lt_of_cell? _ _ (hHeld))).trans (hHeld)
                 have n0_ := Aside0.mk (Kd.R_below u27_ hb)
                 have n1_ := Aside0.mk (Kd.R_below (Kd.R_elderB u37_ gb220 (Nat.le_of_eq hg.symm)) hb)
                 have n2_ := Aside0.mk (blk_below (g := gb203) (o := .cells #[.string (⟨#[]⟩ : ByteArray), .slice none 0 0] 37 (0, 0)) u12_ hb)
                 have n3_ := Aside0.mk (blk_below (g := gb209) (o := .cells #[.string t207, u210001] 37 (0, 0)) u18_ hb)
                 have n4_ := Aside0.mk (IsS106.below u29_ hb)
                 have n5_ := Aside0.mk (KeepBut.trans u5_ (KeepBut.of_below hb g none) (.inl rfl))
                 have n6_ := Aside0.mk (below_step u25_ hb)
                 have n7_ := Aside0.mk (hbox)
                 have n8_ := Aside0.mk ((by rw [hg]; exact (keep_size (w := w) (g := g) (row := none) u5_) : w.heap.size ≤ gb220))
                 have n9_ := Aside0.mk ((Nat.le_trans HW0.out (by rw [hg]; exact (keep_size (w := w) (g := g) (row := none) u5_) : w.heap.size ≤ gb220) : w0.heap.size ≤ gb220))
                 have n10_ := Aside0.mk ((by rw [hg]; exact Nat.ne_of_lt (blk_lt (g := gb203) (o := .cells #[.string (⟨#[]⟩ : ByteArray), .slice none 0 0] 37 (0, 0)) u12_) : gb203 ≠ gb220))
                 have n11_ := Aside0.mk ((by rw [hg]; exact Nat.ne_of_gt (blk_lt (g := gb203) (o := .cells #[.string (⟨#[]⟩ : ByteArray), .slice none 0 0] 37 (0, 0)) u12_) : gb220 ≠ gb203))
                 have n12_ := Aside0.mk ((by rw [hg]; exact Nat.ne_of_lt (blk_lt (g := gb209) (o := .cells #[.string t207, u210001] 37 (0, 0)) u18_) : gb209 ≠ gb220))
                 have n13_ := Aside0.mk ((by rw [hg]; exact Nat.ne_of_gt (blk_lt (g := gb209) (o := .cells #[.string t207, u210001] 37 (0, 0)) u18_) : gb220 ≠ gb209))
                 have n14_ := Aside0.mk ((by rw [hg]; exact Nat.ne_of_lt (IsS106.lt (show IsS106 w0 _ g s0_0 t219 from by repeat (first | (with_reducible first | exact HI0.out | apply IsS106.alloc | apply IsS106.drewN | apply IsS106.drew | apply IsS106.set_1 | refine IsS106.far ?_ NB0_203.out _ | refine IsS106.far ?_ NB0_209.out _) | exact HI0.out))) : g ≠ gb220))
                 have n15_ := Aside0.mk ((by rw [hg]; exact Nat.ne_of_gt (IsS106.lt (show IsS106 w0 _ g s0_0 t219 from by repeat (first | (with_reducible first | exact HI0.out | apply IsS106.alloc | apply IsS106.drewN | apply IsS106.drew | apply IsS106.set_1 | refine IsS106.far ?_ NB0_203.out _ | refine IsS106.far ?_ NB0_209.out _) | exact HI0.out))) : gb220 ≠ g))
                 clear HO_6
                 clear HO_210001
                 clear BK203
                 clear BK209
                 clear HI0
                 clear HK
                 clear HB
                 have HO_6 := n0_
                 have HO_210001 := n1_
                 have BK203 := n2_
                 have BK209 := n3_
                 have HI0 := n4_
                 have HK := n5_
                 have HB := n6_
                 have BK220 := n7_
                 have GW220 := n8_
                 have GE220 := n9_
                 have NB203_220 := n10_
                 have NB220_203 := n11_
                 have NB209_220 := n12_
                 have NB220_209 := n13_
                 have NB0_220 := n14_
                 have NB220_0 := n15_
                 clear n0_ n1_ n2_ n3_ n4_ n5_ n6_ n7_ n8_ n9_ n10_ n11_ n12_ n13_ n14_ n15_
                 clear hb hbox hg
                 refine hK.out _ _ (HS0_) (fun hHeld => ?_)
                 clear hK K
                 refine norm_ (a' := ?_) ?_ ?_
                 rotate_left
                 ·show Act.put _ (some 9) _ = _
                  simp only [Act.put, List.setIfInBounds_toArray, List.set_cons_zero, List.set_cons_succ, i64_w, i32_w]
                  rfl
                 exact norm_ u84_ (hCont (gb220) _ ⟨hHeld, u83_, u27_, u12_, u18_, u56_, GW220.out, GE220.out, NB0_220.out, NB220_0.out, NB203_220.out, NB220_203.out, NB209_220.out, NB220_209.out, u33_, u9_, u21_⟩)
                ·skip
                 refine box_step ?hg (N := 9) ?hd (cs := #[.string (⟨#[]⟩ : ByteArray), .string (⟨#[]⟩ : ByteArray)]) (t := 74) ?hr ?_; (case hd => rfl); (case hg => rfl); (case hr => first | (go_simp; done) | (go_simp; rfl))
                 intro gb220 hg w77 hbox hb
                 have HS0_ := (hb.cell (World.block_lt_of_cell? _ _ (hHeld))).trans (hHeld)
                 have n0_ := Aside0.mk (Kd.R_below u27_ hb)
                 have n1_ := Aside0.mk (Kd.R_below (Kd.R_elderB u37_ gb220 (Nat.le_of_eq hg.symm)) hb)
                 have n2_ := Aside0.mk (blk_below (g := gb203) (o := .cells #[.string (⟨#[]⟩ : ByteArray), .slice none 0 0] 37 (0, 0)) u12_ hb)
                 have n3_ := Aside0.mk (blk_below (g := gb209) (o := .cells #[.string t207, u210001] 37 (0, 0)) u18_ hb)
                 have n4_ := Aside0.mk (IsS106.below u29_ hb)
                 have n5_ := Aside0.mk (KeepBut.trans u5_ (KeepBut.of_below hb g none) (.inl rfl))
                 have n6_ := Aside0.mk (below_step u25_ hb)
                 have n7_ := Aside0.mk (hbox)
                 have n8_ := Aside0.mk ((by rw [hg]; exact (keep_size (w := w) (g := g) (row := none) u5_) : w.heap.size ≤ gb220))
                 have n9_ := Aside0.mk ((Nat.le_trans HW0.out (by rw [hg]; exact (keep_size (w := w) (g := g) (row := none) u5_) : w.heap.size ≤ gb220) : w0.heap.size ≤ gb220))
                 have n10_ := Aside0.mk ((by rw [hg]; exact Nat.ne_of_lt (blk_lt (g := gb203) (o := .cells #[.string (⟨#[]⟩ : ByteArray), .slice none 0 0] 37 (0, 0)) u12_) : gb203 ≠ gb220))
                 have n11_ := Aside0.mk ((by rw [hg]; exact Nat.ne_of_gt (blk_lt (g := gb203) (o := .cells #[.string (⟨#[]⟩ : ByteArray), .slice none 0 0] 37 (0, 0)) u12_) : gb220 ≠ gb203))
                 have n12_ := Aside0.mk ((by rw [hg]; exact Nat.ne_of_lt (blk_lt (g := gb209) (o := .cells #[.string t207, u210001] 37 (0, 0)) u18_) : gb209 ≠ gb220))
                 have n13_ := Aside0.mk ((by rw [hg]; exact Nat.ne_of_gt (blk_lt (g := gb209) (o := .cells #[.string t207, u210001] 37 (0, 0)) u18_) : gb220 ≠ gb209))
                 have n14_ := Aside0.mk ((by rw [hg]; exact Nat.ne_of_lt (IsS106.lt (show IsS106 w0 _ g s0_0 x1001_17 from by repeat (first | (with_reducible first | exact HI0.out | apply IsS106.alloc | apply IsS106.drewN | apply IsS106.drew | apply IsS106.set_1 | refine IsS106.far ?_ NB0_203.out _ | refine IsS106.far ?_ NB0_209.out _) | exact HI0.out))) : g ≠ gb220))
                 have n15_ := Aside0.mk ((by rw [hg]; exact Nat.ne_of_gt (IsS106.lt (show IsS106 w0 _ g s0_0 x1001_17 from by repeat (first | (with_reducible first | exact HI0.out | apply IsS106.alloc | apply IsS106.drewN | apply IsS106.drew | apply IsS106.set_1 | refine IsS106.far ?_ NB0_203.out _ | refine IsS106.far ?_ NB0_209.out _) | exact HI0.out))) : gb220 ≠ g))
                 clear HO_6
                 clear HO_210001
                 clear BK203
                 clear BK209
                 clear HI0
                 clear HK
                 clear HB
                 have HO_6 := n0_
                 have HO_210001 := n1_
                 have BK203 := n2_
                 have BK209 := n3_
                 have HI0 := n4_
                 have HK := n5_
                 have HB := n6_
                 have BK220 := n7_
                 have GW220 := n8_
                 have GE220 := n9_
                 have NB203_220 := n10_
                 have NB220_203 := n11_
                 have NB209_220 := n12_
                 have NB220_209 := n13_
                 have NB0_220 := n14_
                 have NB220_0 := n15_
                 clear n0_ n1_ n2_ n3_ n4_ n5_ n6_ n7_ n8_ n9_ n10_ n11_ n12_ n13_ n14_ n15_
                 clear hb hbox hg
                 refine hK.out _ _ (HS0_) (fun hHeld => ?_)
                 clear hK K
                 refine norm_ (a' := ?_) ?_ ?_
                 rotate_left
                 ·show Act.put _ (some 9) _ = _
                  simp only [Act.put, List.setIfInBounds_toArray, List.set_cons_zero, List.set_cons_succ, i64_w, i32_w]
                  rfl
                 refine one_ (i := 5) (N := some 39) #[true, true, true, true, true, true, false, true, false] rfl rfl (one_of HT_.out u17_) u39_ (fun K hK => ?_)
                 refine goes_ Tryd.func90 u17_ rfl #[.pointer (some ⟨g, 0, none⟩)] u67_ rfl rfl u0_ ?_
                 with_reducible refine (spec_l11Text.calls kj17 g s0_0 x1001_17 t218 t219 w0 _ ?side1 ?side2 A26.out).mono ?_
                 (case side1 => repeat (first | (with_reducible first | exact HI0.out | apply IsS106.alloc | apply IsS106.drewN | apply IsS106.drew | apply IsS106.set_1 | refine IsS106.far ?_ NB0_203.out _ | refine IsS106.far ?_ NB0_209.out _ | refine IsS106.far ?_ NB0_220.out _) | exact HI0.out))
                 (case side2 => repeat (first | (with_reducible first | exact HB.out | apply below_alloc | apply pw_below_drewN | apply below_drew1 | refine below_set ?_ (IsS106.ge HI0.out) | refine below_set ?_ GE203.out | refine below_set ?_ GE209.out | refine below_set ?_ GE220.out) | exact HB.out))
                 rintro e w78 ⟨rfl, hi, hb, hk⟩
                 have HS0_ := keep_cell hk (hHeld) u119_
                 refine ⟨_, rfl, ?_⟩
                 have n0_ := Aside0.mk (Kd.R_mono (Kd.R_keep (IsS106.apart (show IsS106 w0 _ g s0_0 x1001_17 from by repeat (first | (with_reducible first | exact HI0.out | apply IsS106.alloc | apply IsS106.drewN | apply IsS106.drew | apply IsS106.set_1 | refine IsS106.far ?_ NB0_203.out _ | refine IsS106.far ?_ NB0_209.out _ | refine IsS106.far ?_ NB0_220.out _) | exact HI0.out)) u27_ u39_) hk (fun _ h => h.2)) (fun _ h => h.1))
                 have n1_ := Aside0.mk (Kd.R_mono (Kd.R_keep (IsS106.apart (show IsS106 w0 _ g s0_0 x1001_17 from by repeat (first | (with_reducible first | exact HI0.out | apply IsS106.alloc | apply IsS106.drewN | apply IsS106.drew | apply IsS106.set_1 | refine IsS106.far ?_ NB0_203.out _ | refine IsS106.far ?_ NB0_209.out _ | refine IsS106.far ?_ NB0_220.out _) | exact HI0.out)) u37_ u39_) hk (fun _ h => h.2)) (fun _ h => h.1))
                 have n2_ := Aside0.mk (KeepBut.blk hk (g' := gb203) (o := .cells #[.string (⟨#[]⟩ : ByteArray), .slice none 0 0] 37 (0, 0)) u12_ NB203_0.out u89_)
                 have n3_ := Aside0.mk (KeepBut.blk hk (g' := gb209) (o := .cells #[.string t207, u210001] 37 (0, 0)) u18_ NB209_0.out u89_)
                 have n4_ := Aside0.mk (KeepBut.blk hk (g' := gb220) (o := .cells #[.string (⟨#[]⟩ : ByteArray), .string (⟨#[]⟩ : ByteArray)] 74 (0, 0)) u56_ NB220_0.out u89_)
                 have n5_ := Aside0.mk (KeepBut.trans u9_ hk (.inl rfl))
                 have n6_ := Aside0.mk (hb)
                 have n7_ := Aside0.mk (hi)
                 clear HO_6
                 clear HO_210001
                 clear BK203
                 clear BK209
                 clear BK220
                 clear HK
                 clear HB
                 clear HI0
                 have HO_6 := n0_
                 have HO_210001 := n1_
                 have BK203 := n2_
                 have BK209 := n3_
                 have BK220 := n4_
                 have HK := n5_
                 have HB := n6_
                 have HI0 := n7_
                 clear n0_ n1_ n2_ n3_ n4_ n5_ n6_ n7_
                 (try clear hb)
                 (try clear hb2)
                 (try clear hk)
                 (try clear hi)
                 refine hK.out _ _ (HS0_) (fun hHeld => ?_)
                 clear hK K
                 refine norm_ (a' := ?_) ?_ ?_
                 rotate_left
                 ·show Act.put _ (some 39) _ = _
                  simp only [Act.put, List.setIfInBounds_toArray, List.set_cons_zero, List.set_cons_succ, i64_w, i32_w]
                  rfl
                 refine pure_ (i := 6) (N := some 40) (v := ?_) (a' := ?_) #[true, true, true, true, true, true, true, true, false] rfl rfl (any_of HT_.out u17_) (fun _ _ _ h => h) (Or.inl ⟨u67_, ?_⟩) ?_ ?_
                 rotate_left
                 ·intro w'
                  go_simp
                  with_reducible rfl
                 rotate_left
                 ·simp only [Act.put, List.setIfInBounds_toArray, List.set_cons_zero, List.set_cons_succ, i64_w, i32_w]
                  rfl
                 exact norm_ u84_ (hCont (gb220) _ ⟨hHeld, u83_, u27_, u12_, u18_, u56_, GW220.out, GE220.out, NB0_220.out, NB220_0.out, NB203_220.out, NB220_203.out, NB209_220.out, NB220_209.out, u33_, u9_, u21_⟩)
               rintro gb220 w79 ⟨hS_, h0_, h1_, h2_, h3_, h4_, h5_, h6_, h7_, h8_, h9_, h10_, h11_, h12_, h13_, h14_, h15_⟩
               have n0_ : Aside0 (Kd.R k74 74 w79 w.heap.size (fun k_ => k_ ≠ gb220) u210001 x210001_1) := ⟨h0_⟩
               have n1_ : Aside0 (Kd.R Kd.string 9 w79 w.heap.size (fun _ => True) (.slice (some ad213) y210.length co19) y210) := ⟨h1_⟩
               have n2_ : Aside0 (w79.heap[gb203]? = some (.cells #[.string (⟨#[]⟩ : ByteArray), .slice none 0 0] 37 (0, 0))) := ⟨h2_⟩
               have n3_ : Aside0 (w79.heap[gb209]? = some (.cells #[.string t207, u210001] 37 (0, 0))) := ⟨h3_⟩
               have n4_ : Aside0 (w79.heap[gb220]? = some (.cells #[.string (⟨#[]⟩ : ByteArray), .string (⟨#[]⟩ : ByteArray)] 74 (0, 0))) := ⟨h4_⟩
               have n5_ : Aside0 (w.heap.size ≤ gb220) := ⟨h5_⟩
               have n6_ : Aside0 (w0.heap.size ≤ gb220) := ⟨h6_⟩
               have n7_ : Aside0 (g ≠ gb220) := ⟨h7_⟩
               have n8_ : Aside0 (gb220 ≠ g) := ⟨h8_⟩
               have n9_ : Aside0 (gb203 ≠ gb220) := ⟨h9_⟩
               have n10_ : Aside0 (gb220 ≠ gb203) := ⟨h10_⟩
               have n11_ : Aside0 (gb209 ≠ gb220) := ⟨h11_⟩
               have n12_ : Aside0 (gb220 ≠ gb209) := ⟨h12_⟩
               have n13_ : Aside0 (IsS106 w0 w79 g s0_0 t219) := ⟨h13_⟩
               have n14_ : Aside0 (KeepBut w w79 g none) := ⟨h14_⟩
               have n15_ : Aside0 (Below w0.heap.size w0 w79) := ⟨h15_⟩
               clear HO_6
               clear HO_210001
               clear BK203
               clear BK209
               clear HI0
               clear HK
               clear HB
               clear h0_ h1_ h2_ h3_ h4_ h5_ h6_ h7_ h8_ h9_ h10_ h11_ h12_ h13_ h14_ h15_
               have HO_210001 := n0_
               have HO_6 := n1_
               have BK203 := n2_
               have BK209 := n3_
               have BK220 := n4_
               have GW220 := n5_
               have GE220 := n6_
               have NB0_220 := n7_
               have NB220_0 := n8_
               have NB203_220 := n9_
               have NB220_203 := n10_
               have NB209_220 := n11_
               have NB220_209 := n12_
               have HI0 := n13_
               have HK := n14_
               have HB := n15_
               clear n0_ n1_ n2_ n3_ n4_ n5_ n6_ n7_ n8_ n9_ n10_ n11_ n12_ n13_ n14_ n15_
               have hHeld : w79.cell? (ad213.add (x7_1).toNat) = some (.string (rdOf ByteArray.empty y210 x7_1)) := hS_
               refine norm_ (a' := ?_) ?_ ?_
               rotate_left
               ·simp only [putAll, Act.put, List.setIfInBounds_toArray, List.set_cons_zero, List.set_cons_succ]
                rfl
               refine one_ (i := 8) (N := none) #[true, true, true, true, true, true, true, true, true] rfl rfl (one_of HT_.out u17_) u39_ (fun K hK => ?_)
               have hs80 : w79.cell? ⟨gb220, 0, none⟩ = some (.string (⟨#[]⟩ : ByteArray)) := (blk_cell BK220.out 0).trans rfl
               have hfs80 := blk_frozen BK220.out 0
               have hns80_0 := NB203_220.out
               have hns80_1 := NB209_220.out
               have hms80_0 := NB220_203.out
               have hms80_1 := NB220_209.out
               have hs81 : w79.cell? ⟨gb220, 1, none⟩ = some (.string (⟨#[]⟩ : ByteArray)) := (blk_cell BK220.out 1).trans rfl
               have hfs81 := blk_frozen BK220.out 1
               have hns81_0 := NB203_220.out
               have hns81_1 := NB209_220.out
               have hms81_0 := NB220_203.out
               have hms81_1 := NB220_209.out
               refine skip_ (w1 := ?_) u67_ rfl ?_ ?_
               rotate_left
               ·go_simp
                rfl
               refine hK.out _ _ (((cell_far (p := ⟨gb220, _, none⟩) u141_ _).trans (((cell_far (p := ⟨gb220, _, none⟩) u141_ _).trans (hHeld))))) (fun hHeld => ?_)
               clear hK K
               refine done_ (done_of HT_.out u17_) ?_
               have p221 : 0 ≤ (t214 : Int) := of_decide_eq_true u1_
               have q221 : t214 < (l1.length : Int) := of_decide_eq_true u1_
               obtain ⟨ad221, e221, hx221_0, hx221_1, hx221_2⟩ := at_T32 (Kd.C_foot_now HR1.out (show KeepBut w ((w79.setCell ⟨gb220, 0, none⟩ (.string (rdOf ByteArray.empty y210 x7_1))).setCell ⟨gb220, 1, none⟩ (.string t218)) g none from by repeat (first | (with_reducible first | exact HK.out | apply KeepBut.set_ | apply keep_drewN | apply keep_drew | apply keep_alloc | refine keep_far ?_ GW203.out _ | refine keep_far ?_ GW209.out _ | refine keep_far ?_ GW220.out _) | exact HK.out))) t214 p221 q221
               cases e221
               replace p221 := eq_true p221
               replace q221 := eq_true q221
               have hnb82 := NB209_203.out
               have hnc82 := NB203_209.out
               have hnb83 := NB209_220.out
               have hnc83 := NB220_209.out
               have hnb84 := NB209_0.out
               have hnc84 := NB0_209.out
               have hcz85_0 : w79.cell? ⟨gb209, 0, none⟩ = some (.string t207) := (blk_cell BK209.out 0).trans rfl
               have hcz85_1 : w79.cell? ⟨gb209, 1, none⟩ = some (u210001) := (blk_cell BK209.out 1).trans rfl
               have hfz85_0 := blk_frozen BK209.out 0
               have hfz85_1 := blk_frozen BK209.out 1
               have hnb86 := NB220_203.out
               have hnc86 := NB203_220.out
               have hnb87 := NB220_0.out
               have hnc87 := NB0_220.out
               have hcz88_0 : w79.cell? ⟨gb220, 0, none⟩ = some (.string (⟨#[]⟩ : ByteArray)) := (blk_cell BK220.out 0).trans rfl
               have hcz88_1 : w79.cell? ⟨gb220, 1, none⟩ = some (.string (⟨#[]⟩ : ByteArray)) := (blk_cell BK220.out 1).trans rfl
               have hfz88_0 := blk_frozen BK220.out 0
               have hfz88_1 := blk_frozen BK220.out 1
               try go_wp2_with (first | ((with_reducible refine gate_builtin (b := .append) (xs := #[.tmp 59, .tmp 61]) rfl ?_); at_builtin; refine Kd.R_append k74 w.heap.size rfl (.tmp 59) (.tmp 61) 35 74 (.agg #[(.string ⟨#[]⟩), (.string ⟨#[]⟩)]) 32 rfl Tryd.underlying35 info74 rfl u39_ (by omega) u210001 x210001_1 (⟨rdOf ByteArray.empty y210 x7_1, t218⟩ : S74) [.string (rdOf ByteArray.empty y210 x7_1), .string t218] (fun k_ => k_ ≠ gb220) (fun _ => False) rfl (by first | (go_simp; done) | (go_simp; rfl)) ?aP (fun _ hk => hk.elim) ?aF ?aO (Below.refl _ _) ?aS ?aL ?_; (case aP => exact k74_mkM _ _ _ (⟨rdOf ByteArray.empty y210 x7_1, t218⟩ : S74)); (case aF => exact (fun k_ hk => Kd.freshB (g := gb220) (o := .cells #[.string (rdOf ByteArray.empty y210 x7_1), .string t218] 74 (0, 0)) u40_ k_ hk)); (case aO => exact (by (with_reducible repeat (first | apply Kd.R_alloc | apply Kd.R_drewN | apply Kd.R_drew)); exact Kd.R_mono (Kd.R_far (p := ⟨gb220, 1, none⟩) (Kd.R_far (p := ⟨gb220, 0, none⟩) (Kd.R_mono HO_210001.out (fun k_ hk => (⟨hk, hk⟩ : _ ∧ k_ ≠ gb220))) (fun _ hk => hk.2) (.string (rdOf ByteArray.empty y210 x7_1))) (fun _ hk => hk.2) (.string t218)) (fun _ hk => hk.1))); (case aS => exact (keep_size (w := w) (g := g) (row := none) u9_)); (case aL => have := LMc75.out; omega); intro v239 w89 ho hb hg hat; rw [← Ny238.out] at ho; have n0_ := Aside0.mk (Kd.R_over' u118_ (Kd.R_typed u81_) u39_ hg); have n1_ := Aside0.mk (blk_grown (g := gb203) (o := .cells #[.string (⟨#[]⟩ : ByteArray), .slice none 0 0] 37 (0, 0)) u75_ hg (Kd.R_ne HO_210001.out BK203.out u39_)); have n2_ := Aside0.mk (blk_grown (g := gb209) (o := .cells #[.string t207, u210001] 37 (0, 0)) u76_ hg (Kd.R_ne HO_210001.out BK209.out u39_)); have n3_ := Aside0.mk (IsS106.grown (show IsS106 w0 _ g s0_0 t219 from by repeat (first | (with_reducible first | exact HI0.out | apply IsS106.alloc | apply IsS106.drewN | apply IsS106.drew | apply IsS106.set_1 | refine IsS106.far ?_ NB0_203.out _ | refine IsS106.far ?_ NB0_209.out _ | refine IsS106.far ?_ NB0_220.out _) | exact HI0.out)) hg (IsS106.own_ne HI0.out HO_210001.out u39_)); have n4_ := Aside0.mk (blk_grown (g := gb220) (o := .cells #[.string (rdOf ByteArray.empty y210 x7_1), .string t218] 74 (0, 0)) u40_ hg (Kd.R_away HO_210001.out (fun _ hk => hk))); have n5_ := Aside0.mk (below_weaken u21_ HL.out hb); have n6_ := Aside0.mk (KeepBut.trans u9_ (KeepBut.of_grown hg g) (Kd.R_base2 HO_210001.out)); have n7_ := Aside0.mk (ho); clear HO_6; clear BK203; clear BK209; clear HI0; clear BK220; clear HB; clear HK; clear HO_210001; have HO_6 := n0_; have BK203 := n1_; have BK209 := n2_; have HI0 := n3_; have BK220 := n4_; have HB := n5_; have HK := n6_; have HO240 := n7_; clear n0_ n1_ n2_ n3_ n4_ n5_ n6_ n7_; clear ho hb hg hat; obtain ⟨Ao90, co90, eo90⟩ := Kd.R_slice HO240.out; subst eo90; have hcz91_0 : w89.cell? ⟨gb209, 0, none⟩ = some (.string t207) := (blk_cell BK209.out 0).trans rfl; have hcz91_1 : w89.cell? ⟨gb209, 1, none⟩ = some (u210001) := (blk_cell BK209.out 1).trans rfl; have hfz91_0 := blk_frozen BK209.out 0; have hfz91_1 := blk_frozen BK209.out 1))
               go_roundg kj17
               case measure => have := HK1.out; have := HJ17.out; omega
               case rel => exact ⟨(wrap64 (x7_1 + 1)), (t219), (y238), (.slice Ao90 y238.length co90), u22_, H', ⟨by have := HK1.out; have := HJ17.out; omega⟩, ⟨by (with_reducible repeat (first | apply Kd.R_alloc | apply Kd.R_drewN | apply Kd.R_drew)); exact Kd.R_mono (Kd.R_far (p := ⟨gb209, 1, none⟩) (Kd.R_types HO_6.out BK209.out u39_) (fun _ hk => hk.2) (.slice Ao90 y238.length co90)) (fun _ hk => trivial)⟩, ⟨by (with_reducible repeat (first | apply Kd.R_alloc | apply Kd.R_drewN | apply Kd.R_drew)); exact Kd.R_mono (Kd.R_far (p := ⟨gb209, 1, none⟩) (Kd.R_types HO240.out BK209.out u39_) (fun _ hk => hk.2) (.slice Ao90 y238.length co90)) (fun _ hk => trivial)⟩, ⟨u93_⟩, ⟨u91_⟩, ⟨u33_⟩, ⟨u9_⟩, ⟨u21_⟩⟩
              ·rw [if_neg c75] at H
               exact absurd H u89_
           ·rw [if_neg c28] at H
            exact absurd H u89_
          ·rw [if_neg c27] at H
           exact absurd H u89_
         ·rw [if_neg c25] at H
          exact absurd H u89_
        ·rw [if_neg c24] at H
         exact absurd H u89_
    ·rw [if_neg c16] at H
     exact absurd H u89_
   ·rw [if_neg c15] at H
    have c15b0 : decide (x7_1 < (y210.length : Int)) = false := decide_eq_false c15
    clear c15
    simp only [Option.some.injEq, Prod.mk.injEq] at H
    obtain ⟨rfl, rfl, rfl⟩ := H
    obtain ⟨Ao92, co92, eo92⟩ := Kd.R_slice HO_6.out
    subst eo92
    have hnb93 := NB209_203.out
    have hnc93 := NB203_209.out
    have hnb94 := NB209_0.out
    have hnc94 := NB0_209.out
    have hcz95_0 : wr.cell? ⟨gb209, 0, none⟩ = some (.string t207) := (blk_cell BK209.out 0).trans rfl
    have hcz95_1 : wr.cell? ⟨gb209, 1, none⟩ = some (u210001) := (blk_cell BK209.out 1).trans rfl
    have hfz95_0 := blk_frozen BK209.out 0
    have hfz95_1 := blk_frozen BK209.out 1
    have hnb96 := NB203_0.out
    have hnc96 := NB0_203.out
    have hcz97_0 : wr.cell? ⟨gb203, 0, none⟩ = some (.string (⟨#[]⟩ : ByteArray)) := (blk_cell BK203.out 0).trans rfl
    have hcz97_1 : wr.cell? ⟨gb203, 1, none⟩ = some (.slice none 0 0) := (blk_cell BK203.out 1).trans rfl
    have hfz97_0 := blk_frozen BK203.out 0
    have hfz97_1 := blk_frozen BK203.out 1
    obtain ⟨Ao98, co98, eo98⟩ := Kd.R_slice HO_210001.out
    subst eo98
    go_wp2
    refine bodyPost_ret (results_cell_row rfl _ _ gb203 37 #[.string t207, .slice Ao98 x210001_1.length co98] (0, 0) _ rfl (by (with_reducible repeat (first | refine blk_drewN ?_ _ | refine blk_drew ?_ | refine blk_alloc ?_ _)); refine blk_put (cs := #[.string t207, .slice none 0 0]) ?_ 1 _ rfl; (with_reducible repeat (first | refine blk_drewN ?_ _ | refine blk_drew ?_ | refine blk_alloc ?_ _)); refine blk_put (cs := #[.string (⟨#[]⟩ : ByteArray), .slice none 0 0]) ?_ 0 _ rfl; (with_reducible repeat (first | refine blk_drewN ?_ _ | refine blk_drew ?_ | refine blk_alloc ?_ _)); exact BK203.out) Tryd.underlying37 rfl u17_) rfl ?_
    exact ⟨_, u7_, by (with_reducible repeat (first | apply Kd.R_alloc | apply Kd.R_drewN | apply Kd.R_drew)); exact Kd.R_mono (Kd.R_far (p := ⟨gb203, 1, none⟩) (Kd.R_far (p := ⟨gb203, 0, none⟩) (Kd.R_types HO_210001.out BK203.out u39_) (fun _ hk => hk.2) (.string t207)) (fun _ hk => hk.2) (.slice Ao98 x210001_1.length co98)) (fun _ hk => trivial), u29_, u25_, u5_⟩

end Go.Proofs.YtglcgkbecfmegaaDoor.PFnDoc
