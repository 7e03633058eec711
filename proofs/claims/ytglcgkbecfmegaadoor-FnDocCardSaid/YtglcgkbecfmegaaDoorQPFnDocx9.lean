/- Contracts of Go functions that the law FnDoc reaches: each is told as a plain Lean function, with the walk that shows it; no condition beyond what each states. Written by a program of this session round the kit's printer. -/
import Derived.Test.YtglcgkbecfmegaaDoorQPFnDocx0
import Derived.Test.YtglcgkbecfmegaaDoorQPFnDocx6
import Derived.Test.YtglcgkbecfmegaaDoorQPFnDocx7
import Derived.Test.YtglcgkbecfmegaaDoorQPFnDocx8
namespace Go.Proofs.YtglcgkbecfmegaaDoor.PFnDoc
open Go.RowKit Go.Proofs.YtglcgkbecfmegaaDoorW.PrintWords Go.Proofs.YtglcgkbecfmegaaDoorW.PrintLast Go.Proofs.YtglcgkbecfmegaaDoorW.PrintMore
attribute [local go_sem] run_str_geq run_str_leq max2_int min2_int max_two min_two max_three min_three max_four min_four   -- for this text's walks alone
set_option linter.unusedVariables false
set_option linter.unusedSimpArgs false

/-! ### spec_l11AnyDoc: function 62 -/
def spec_l11AnyDoc.f (k : Nat) (s0_0 : List Int) (s0_1 : Int) (l1 : List (S32)) : Option (ByteArray × (List (S74)) × Int) := (spec_l11Doc.f k s0_0 s0_1 l1).bind fun bt256 => ((spec_l1Rd_pick.f k s0_0 bt256.2.2 14).bind fun bt262 => (if bt262.1 = 0 then ((spec_l1Rd_of.f k s0_0 bt262.2 (([(⟨#[]⟩ : ByteArray), (⟨#[65]⟩ : ByteArray), (⟨#[110, 105, 110, 101, 108, 101, 116, 116, 101]⟩ : ByteArray)] : List ByteArray))).bind fun bt267 => (some (bt267.1, bt256.2.1, bt267.2))) else (if bt262.1 = 1 then ((spec_l1Rd_of.f k s0_0 bt262.2 (([(⟨#[122, 122]⟩ : ByteArray), (⟨#[98, 111, 100, 121]⟩ : ByteArray), (⟨#[]⟩ : ByteArray)] : List ByteArray))).bind fun bt272 => ((spec_l11AnyText.f k s0_0 bt272.2).bind fun bt274 => (if bt256.2.1.length < 4398046511104 then (some (bt256.1, (bt256.2.1 ++ [(⟨bt272.1, bt274.1⟩ : S74)]), bt274.2)) else (none)))) else (if bt262.1 = 2 then (if (bt256.2.1.length : Int) > 0 then ((spec_l1Rd_pick.f k s0_0 bt262.2 (bt256.2.1.length : Int)).bind fun bt279 => ((spec_l1Rd_of.f k s0_0 bt279.2 (([(⟨#[48, 49]⟩ : ByteArray), (⟨#[]⟩ : ByteArray), (⟨#[120, 44]⟩ : ByteArray), (⟨#[45, 48]⟩ : ByteArray), (⟨#[114, 101, 100, 44, 44, 98, 108, 117, 101]⟩ : ByteArray), (⟨#[97, 44, 98, 44, 99, 44, 100, 44, 101]⟩ : ByteArray), (⟨#[119, 111, 114, 100, 115, 32, 104, 101, 114, 101]⟩ : ByteArray)] : List ByteArray))).bind fun bt284 => (if 0 ≤ bt279.1 then (if bt279.1 < (bt256.2.1.length : Int) then (some (bt256.1, (bt256.2.1.set (bt279.1 : Int).toNat (⟨(rd_T74 bt256.2.1 bt279.1).f0, bt284.1⟩ : S74)), bt284.2)) else (none)) else (none)))) else (some (bt256.1, bt256.2.1, bt262.2))) else (some (bt256.1, bt256.2.1, bt262.2))))))
theorem spec_l11AnyDoc.mono : ∀ a0 a1 a2 k, LeO (spec_l11AnyDoc.f k a0 a1 a2) (spec_l11AnyDoc.f (k + 1) a0 a1 a2) := by
 intro a0 a1 a2 k
 unfold spec_l11AnyDoc.f
 repeat' first
   | (with_reducible exact spec_l11AnyText.mono _ _ _)
   | (with_reducible exact spec_l11Doc.mono _ _ _ _)
   | (with_reducible exact spec_l1Rd_of.mono _ _ _ _)
   | (with_reducible exact spec_l1Rd_pick.mono _ _ _ _)
   | (with_reducible exact LeO.refl _)
   | (with_reducible exact LeO.none _)
   | (with_reducible refine LeO.ite ?_ ?_)
   | (with_reducible refine LeO.bind ?_ (fun _ => ?_))
   | exact spec_l11AnyText.mono _ _ _
   | exact spec_l11Doc.mono _ _ _ _
   | exact spec_l1Rd_of.mono _ _ _ _
   | exact spec_l1Rd_pick.mono _ _ _ _
   | exact LeO.none _
   | refine LeO.ite ?_ ?_
   | refine LeO.bind ?_ (fun _ => ?_)
def spec_l11AnyDoc.T6 : Bool × List (List Nat × List Nat) := (true, [([], []), ([0], [0]), ([], []), ([], []), ([2, 3], [2, 3]), ([], []), ([5, 4], [5]), ([4, 6], [4, 6]), ([7], [7]), ([1, 8, 6], [1, 8]), ([0, 1, 2, 3, 4, 5, 6, 7, 8, 9], []), ([10, 9, 9, 0, 1, 2, 3, 4, 5, 6, 7, 8, 9], [9, 10])])
def spec_l11AnyDoc.B6 : List Nat := [0, 1, 0, 0, 12, 0, 60, 124, 252, 511, 1023, 2047]
theorem spec_l11AnyDoc.tab6 : rtab .any (opsOf Tryd.f62 6) = spec_l11AnyDoc.T6 := by kernel_rfl
theorem spec_l11AnyDoc.bits6 : waitsOk spec_l11AnyDoc.T6.2 spec_l11AnyDoc.B6 = true := by kernel_rfl
def spec_l11AnyDoc.T9 : Bool × List (List Nat × List Nat) := (true, [([], []), ([0], [0]), ([], []), ([], []), ([3], [3]), ([4], [4]), ([2, 5], [2, 5]), ([], []), ([], []), ([7, 8, 6], [7, 8]), ([1, 6, 0, 1, 2, 3, 4, 5, 6, 7, 8, 9], [1, 6]), ([10, 0, 1, 2, 3, 4, 5, 6, 7, 8, 9], [10]), ([11, 9, 9, 0, 1, 2, 3, 4, 5, 6, 7, 8, 9], [9, 11])])
def spec_l11AnyDoc.B9 : List Nat := [0, 1, 0, 0, 8, 24, 60, 0, 0, 508, 1023, 2047, 4095]
theorem spec_l11AnyDoc.tab9 : rtab .any (opsOf Tryd.f62 9) = spec_l11AnyDoc.T9 := by kernel_rfl
theorem spec_l11AnyDoc.bits9 : waitsOk spec_l11AnyDoc.T9.2 spec_l11AnyDoc.B9 = true := by kernel_rfl
set_option maxHeartbeats 8000000 in
set_option maxRecDepth 100000 in
theorem spec_l11AnyDoc.calls (k : Nat) (g : Nat) (s0_0 : List Int) (s0_1 : Int) (A1 : Option Addr) (c1 : Nat) (l1 : List (S32)) (r1 : ByteArray) (r2 : List (S74)) (r3 : Int) (w0 w : World) (hI : IsS106 w0 w g s0_0 s0_1) (hB : Below w0.heap.size w0 w) (hr1 : ∀ W_, KeepBut w W_ g none → Kd.C k32 W_ A1 l1.length l1) (hc1 : l1.length ≤ c1) (h : spec_l11AnyDoc.f k s0_0 s0_1 l1 = some (r1, r2, r3)) :
  Calls Tryd.prog 62 #[.pointer (some ⟨g, 0, none⟩), .slice A1 l1.length c1] w fun e w' => ∃ v1_ : Value, e = .returned (.agg #[.string r1, v1_]) ∧ Kd.R k74 74 w' w.heap.size (fun _ => True) v1_ r2 ∧ IsS106 w0 w' g s0_0 r3 ∧ Below w0.heap.size w0 w' ∧ KeepBut w w' g none := by
 have hu37 := Tryd.underlying37
 have hu74 := Tryd.underlying74
 have HR1 := Aside0.mk hr1
 have HC1 := Aside0.mk hc1
 clear hr1 hc1
 have HI0 := Aside0.mk hI
 have HK := Aside0.mk (KeepBut.refl w g none)
 have HL := Aside0.mk hB.size
 clear hI
 have HW0 := Aside0.mk hB.size
 have HB := Aside0.mk hB
 clear hB
 have H : ((spec_l11Doc.f k s0_0 s0_1 l1).bind fun bt256 => ((spec_l1Rd_pick.f k s0_0 bt256.2.2 14).bind fun bt262 => (if bt262.1 = 0 then ((spec_l1Rd_of.f k s0_0 bt262.2 (([(⟨#[]⟩ : ByteArray), (⟨#[65]⟩ : ByteArray), (⟨#[110, 105, 110, 101, 108, 101, 116, 116, 101]⟩ : ByteArray)] : List ByteArray))).bind fun bt267 => (some (bt267.1, bt256.2.1, bt267.2))) else (if bt262.1 = 1 then ((spec_l1Rd_of.f k s0_0 bt262.2 (([(⟨#[122, 122]⟩ : ByteArray), (⟨#[98, 111, 100, 121]⟩ : ByteArray), (⟨#[]⟩ : ByteArray)] : List ByteArray))).bind fun bt272 => ((spec_l11AnyText.f k s0_0 bt272.2).bind fun bt274 => (if bt256.2.1.length < 4398046511104 then (some (bt256.1, (bt256.2.1 ++ [(⟨bt272.1, bt274.1⟩ : S74)]), bt274.2)) else (none)))) else (if bt262.1 = 2 then (if (bt256.2.1.length : Int) > 0 then ((spec_l1Rd_pick.f k s0_0 bt262.2 (bt256.2.1.length : Int)).bind fun bt279 => ((spec_l1Rd_of.f k s0_0 bt279.2 (([(⟨#[48, 49]⟩ : ByteArray), (⟨#[]⟩ : ByteArray), (⟨#[120, 44]⟩ : ByteArray), (⟨#[45, 48]⟩ : ByteArray), (⟨#[114, 101, 100, 44, 44, 98, 108, 117, 101]⟩ : ByteArray), (⟨#[97, 44, 98, 44, 99, 44, 100, 44, 101]⟩ : ByteArray), (⟨#[119, 111, 114, 100, 115, 32, 104, 101, 114, 101]⟩ : ByteArray)] : List ByteArray))).bind fun bt284 => (if 0 ≤ bt279.1 then (if bt279.1 < (bt256.2.1.length : Int) then (some (bt256.1, (bt256.2.1.set (bt279.1 : Int).toNat (⟨(rd_T74 bt256.2.1 bt279.1).f0, bt284.1⟩ : S74)), bt284.2)) else (none)) else (none)))) else (some (bt256.1, bt256.2.1, bt262.2))) else (some (bt256.1, bt256.2.1, bt262.2))))))) = some (r1, r2, r3) := h
 clear h
 replace H := Option.bind_eq_some_iff.mp H
 obtain ⟨⟨t256, t257, t260⟩, A30, H⟩ := H
 replace H : ((spec_l1Rd_pick.f k s0_0 t260 14).bind fun bt262 => (if bt262.1 = 0 then ((spec_l1Rd_of.f k s0_0 bt262.2 (([(⟨#[]⟩ : ByteArray), (⟨#[65]⟩ : ByteArray), (⟨#[110, 105, 110, 101, 108, 101, 116, 116, 101]⟩ : ByteArray)] : List ByteArray))).bind fun bt267 => (some (bt267.1, t257, bt267.2))) else (if bt262.1 = 1 then ((spec_l1Rd_of.f k s0_0 bt262.2 (([(⟨#[122, 122]⟩ : ByteArray), (⟨#[98, 111, 100, 121]⟩ : ByteArray), (⟨#[]⟩ : ByteArray)] : List ByteArray))).bind fun bt272 => ((spec_l11AnyText.f k s0_0 bt272.2).bind fun bt274 => (if t257.length < 4398046511104 then (some (t256, (t257 ++ [(⟨bt272.1, bt274.1⟩ : S74)]), bt274.2)) else (none)))) else (if bt262.1 = 2 then (if (t257.length : Int) > 0 then ((spec_l1Rd_pick.f k s0_0 bt262.2 (t257.length : Int)).bind fun bt279 => ((spec_l1Rd_of.f k s0_0 bt279.2 (([(⟨#[48, 49]⟩ : ByteArray), (⟨#[]⟩ : ByteArray), (⟨#[120, 44]⟩ : ByteArray), (⟨#[45, 48]⟩ : ByteArray), (⟨#[114, 101, 100, 44, 44, 98, 108, 117, 101]⟩ : ByteArray), (⟨#[97, 44, 98, 44, 99, 44, 100, 44, 101]⟩ : ByteArray), (⟨#[119, 111, 114, 100, 115, 32, 104, 101, 114, 101]⟩ : ByteArray)] : List ByteArray))).bind fun bt284 => (if 0 ≤ bt279.1 then (if bt279.1 < (t257.length : Int) then (some (t256, (t257.set (bt279.1 : Int).toNat (⟨(rd_T74 t257 bt279.1).f0, bt284.1⟩ : S74)), bt284.2)) else (none)) else (none)))) else (some (t256, t257, bt262.2))) else (some (t256, t257, bt262.2)))))) = some (r1, r2, r3) := H
 have A3 := Aside0.mk A30
 clear A30
 replace H := Option.bind_eq_some_iff.mp H
 obtain ⟨⟨t262, t263⟩, A40, H⟩ := H
 replace H : (if t262 = 0 then ((spec_l1Rd_of.f k s0_0 t263 (([(⟨#[]⟩ : ByteArray), (⟨#[65]⟩ : ByteArray), (⟨#[110, 105, 110, 101, 108, 101, 116, 116, 101]⟩ : ByteArray)] : List ByteArray))).bind fun bt267 => (some (bt267.1, t257, bt267.2))) else (if t262 = 1 then ((spec_l1Rd_of.f k s0_0 t263 (([(⟨#[122, 122]⟩ : ByteArray), (⟨#[98, 111, 100, 121]⟩ : ByteArray), (⟨#[]⟩ : ByteArray)] : List ByteArray))).bind fun bt272 => ((spec_l11AnyText.f k s0_0 bt272.2).bind fun bt274 => (if t257.length < 4398046511104 then (some (t256, (t257 ++ [(⟨bt272.1, bt274.1⟩ : S74)]), bt274.2)) else (none)))) else (if t262 = 2 then (if (t257.length : Int) > 0 then ((spec_l1Rd_pick.f k s0_0 t263 (t257.length : Int)).bind fun bt279 => ((spec_l1Rd_of.f k s0_0 bt279.2 (([(⟨#[48, 49]⟩ : ByteArray), (⟨#[]⟩ : ByteArray), (⟨#[120, 44]⟩ : ByteArray), (⟨#[45, 48]⟩ : ByteArray), (⟨#[114, 101, 100, 44, 44, 98, 108, 117, 101]⟩ : ByteArray), (⟨#[97, 44, 98, 44, 99, 44, 100, 44, 101]⟩ : ByteArray), (⟨#[119, 111, 114, 100, 115, 32, 104, 101, 114, 101]⟩ : ByteArray)] : List ByteArray))).bind fun bt284 => (if 0 ≤ bt279.1 then (if bt279.1 < (t257.length : Int) then (some (t256, (t257.set (bt279.1 : Int).toNat (⟨(rd_T74 t257 bt279.1).f0, bt284.1⟩ : S74)), bt284.2)) else (none)) else (none)))) else (some (t256, t257, t263))) else (some (t256, t257, t263))))) = some (r1, r2, r3) := H
 have A4 := Aside0.mk A40
 clear A40
 by_cases c5 : t262 = 0
 ·rw [if_pos c5] at H
  have c5b0 : (t262 == 0) = true := beq_iff_eq.mpr c5
  have c5b1 : (t262 != 0) = false := bne_eq_false_iff_eq.mpr c5
  clear c5
  obtain ⟨y264, hy264⟩ : ∃ y_ : List ByteArray, y_ = (([(⟨#[]⟩ : ByteArray), (⟨#[65]⟩ : ByteArray), (⟨#[110, 105, 110, 101, 108, 101, 116, 116, 101]⟩ : ByteArray)] : List ByteArray)) := ⟨_, rfl⟩
  replace H : ((spec_l1Rd_of.f k s0_0 t263 y264).bind fun bt267 => (some (bt267.1, t257, bt267.2))) = some (r1, r2, r3) := by first | (rw [hy264]; with_reducible exact H) | (have H2_ := (Option.bind_some _ _).symm.trans H; rw [hy264]; with_reducible exact H2_) | (have H2_ := (Option.bind_some _ _).symm.trans H; with_reducible exact H2_) | with_reducible exact H | (rw [hy264]; exact H) | exact H
  have Ny264 := Aside0.mk hy264
  clear hy264
  replace H := Option.bind_eq_some_iff.mp H
  obtain ⟨⟨t267, t268⟩, A60, H⟩ := H
  replace H : (some (t267, t257, t268)) = some (r1, r2, r3) := H
  have A6 := Aside0.mk A60
  clear A60
  simp only [Option.some.injEq, Prod.mk.injEq] at H
  obtain ⟨rfl, rfl, rfl⟩ := H
  go_enter Tryd.func62, Tryd.ntmps62
  go_wp2_with (first | ((with_reducible refine gate_dst (N := 4) rfl ?_); refine box_event ?hg (N := 4) ?hd (cs := #[.string (⟨#[]⟩ : ByteArray), .slice none 0 0]) (t := 37) ?hr ?_; (case hd => rfl); (case hg => rfl); (case hr => first | (go_simp; done) | (go_simp; rfl)); intro gb255 hg w7 hbox hb; have n0_ := Aside0.mk (IsS106.below u19_ hb); have n1_ := Aside0.mk (KeepBut.trans u2_ (KeepBut.of_below hb g none) (.inl rfl)); have n2_ := Aside0.mk (below_step u14_ hb); have n3_ := Aside0.mk (hbox); have n4_ := Aside0.mk ((by rw [hg]; exact (keep_size (w := w) (g := g) (row := none) u2_) : w.heap.size ≤ gb255)); have n5_ := Aside0.mk ((Nat.le_trans HW0.out (by rw [hg]; exact (keep_size (w := w) (g := g) (row := none) u2_) : w.heap.size ≤ gb255) : w0.heap.size ≤ gb255)); have n6_ := Aside0.mk ((by rw [hg]; exact Nat.ne_of_lt (IsS106.lt (show IsS106 w0 _ g s0_0 s0_1 from by repeat (first | (with_reducible first | exact HI0.out | apply IsS106.alloc | apply IsS106.drewN | apply IsS106.drew | apply IsS106.set_1) | exact HI0.out))) : g ≠ gb255)); have n7_ := Aside0.mk ((by rw [hg]; exact Nat.ne_of_gt (IsS106.lt (show IsS106 w0 _ g s0_0 s0_1 from by repeat (first | (with_reducible first | exact HI0.out | apply IsS106.alloc | apply IsS106.drewN | apply IsS106.drew | apply IsS106.set_1) | exact HI0.out))) : gb255 ≠ g)); clear HI0; clear HK; clear HB; have HI0 := n0_; have HK := n1_; have HB := n2_; have BK255 := n3_; have GW255 := n4_; have GE255 := n5_; have NB0_255 := n6_; have NB255_0 := n7_; clear n0_ n1_ n2_ n3_ n4_ n5_ n6_ n7_; clear hb hbox hg) | ((with_reducible refine gate_callee (f := 65) rfl ?_); refine goesL_ (some 8) rfl rfl Tryd.func65 u17_ rfl #[.pointer (some ⟨g, 0, none⟩), .slice A1 l1.length c1] rfl u0_ ?_; (with_reducible refine (spec_l11Doc.calls k g s0_0 s0_1 _ _ l1 t256 t257 t260 w0 _ ?side1 ?side2 ?side3 ?side4 A3.out).mono ?_); (case side1 => repeat (first | (with_reducible first | exact HI0.out | apply IsS106.alloc | apply IsS106.drewN | apply IsS106.drew | apply IsS106.set_1 | refine IsS106.far ?_ NB0_255.out _) | exact HI0.out)); (case side2 => repeat (first | (with_reducible first | exact HB.out | apply below_alloc | apply pw_below_drewN | apply below_drew1 | refine below_set ?_ (IsS106.ge HI0.out) | refine below_set ?_ GE255.out) | exact HB.out)); (case side3 => exact Kd.C_foot_step HR1.out u11_); (case side4 => exact HC1.out); rintro e w8 ⟨v258, rfl, ho0, hi, hb, hk⟩; refine ⟨_, rfl, ?_⟩; have n0_ := Aside0.mk (KeepBut.blk hk (g' := gb255) (o := .cells #[.string (⟨#[]⟩ : ByteArray), .slice none 0 0] 37 (0, 0)) u20_ NB255_0.out u89_); have n1_ := Aside0.mk (Kd.R_lower ho0 (keep_size (w := w) (g := g) (row := none) u11_)); have n2_ := Aside0.mk (KeepBut.trans u11_ hk (.inl rfl)); have n3_ := Aside0.mk (hb); have n4_ := Aside0.mk (hi); clear BK255; clear HK; clear HB; clear HI0; have BK255 := n0_; have HO259 := n1_; have HK := n2_; have HB := n3_; have HI0 := n4_; clear n0_ n1_ n2_ n3_ n4_; (try clear hb); (try clear hb2); (try clear hk); (try clear hi); (try clear ho0)) | ((with_reducible refine gate_dst (N := 5) rfl ?_); refine box_event ?hg (N := 5) ?hd (cs := #[.string (⟨#[]⟩ : ByteArray), .slice none 0 0]) (t := 37) ?hr ?_; (case hd => rfl); (case hg => rfl); (case hr => first | (go_simp; done) | (go_simp; rfl)); intro gb261 hg w9 hbox hb; have n0_ := Aside0.mk (Kd.R_below u36_ hb); have n1_ := Aside0.mk (IsS106.below u80_ hb); have n2_ := Aside0.mk (blk_below (g := gb255) (o := .cells #[.string (⟨#[]⟩ : ByteArray), .slice none 0 0] 37 (0, 0)) u20_ hb); have n3_ := Aside0.mk (KeepBut.trans u11_ (KeepBut.of_below hb g none) (.inl rfl)); have n4_ := Aside0.mk (below_step u71_ hb); have n5_ := Aside0.mk (hbox); have n6_ := Aside0.mk ((by rw [hg]; exact (keep_size (w := w) (g := g) (row := none) u11_) : w.heap.size ≤ gb261)); have n7_ := Aside0.mk ((Nat.le_trans HW0.out (by rw [hg]; exact (keep_size (w := w) (g := g) (row := none) u11_) : w.heap.size ≤ gb261) : w0.heap.size ≤ gb261)); have n8_ := Aside0.mk ((by rw [hg]; exact Nat.ne_of_lt (blk_lt (g := gb255) (o := .cells #[.string (⟨#[]⟩ : ByteArray), .slice none 0 0] 37 (0, 0)) u20_) : gb255 ≠ gb261)); have n9_ := Aside0.mk ((by rw [hg]; exact Nat.ne_of_gt (blk_lt (g := gb255) (o := .cells #[.string (⟨#[]⟩ : ByteArray), .slice none 0 0] 37 (0, 0)) u20_) : gb261 ≠ gb255)); have n10_ := Aside0.mk ((by rw [hg]; exact Nat.ne_of_lt (IsS106.lt (show IsS106 w0 _ g s0_0 t260 from by repeat (first | (with_reducible first | exact HI0.out | apply IsS106.alloc | apply IsS106.drewN | apply IsS106.drew | apply IsS106.set_1 | refine IsS106.far ?_ NB0_255.out _) | exact HI0.out))) : g ≠ gb261)); have n11_ := Aside0.mk ((by rw [hg]; exact Nat.ne_of_gt (IsS106.lt (show IsS106 w0 _ g s0_0 t260 from by repeat (first | (with_reducible first | exact HI0.out | apply IsS106.alloc | apply IsS106.drewN | apply IsS106.drew | apply IsS106.set_1 | refine IsS106.far ?_ NB0_255.out _) | exact HI0.out))) : gb261 ≠ g)); clear HO259; clear HI0; clear BK255; clear HK; clear HB; have HO259 := n0_; have HI0 := n1_; have BK255 := n2_; have HK := n3_; have HB := n4_; have BK261 := n5_; have GW261 := n6_; have GE261 := n7_; have NB255_261 := n8_; have NB261_255 := n9_; have NB0_261 := n10_; have NB261_0 := n11_; clear n0_ n1_ n2_ n3_ n4_ n5_ n6_ n7_ n8_ n9_ n10_ n11_; clear hb hbox hg; have hnb10 := NB261_255.out; have hnc10 := NB255_261.out; have hnb11 := NB261_0.out; have hnc11 := NB0_261.out; have hcz12_0 : w9.cell? ⟨gb261, 0, none⟩ = some (.string (⟨#[]⟩ : ByteArray)) := (blk_cell BK261.out 0).trans rfl; have hcz12_1 : w9.cell? ⟨gb261, 1, none⟩ = some (.slice none 0 0) := (blk_cell BK261.out 1).trans rfl; have hfz12_0 := blk_frozen BK261.out 0; have hfz12_1 := blk_frozen BK261.out 1; obtain ⟨Ao13, co13, eo13⟩ := Kd.R_slice HO259.out; subst eo13) | ((with_reducible refine gate_callee (f := 77) rfl ?_); refine goesL_ (some 10) rfl rfl Tryd.func77 u17_ rfl #[.pointer (some ⟨g, 0, none⟩), .int .i64 14] rfl u0_ ?_; (with_reducible refine (spec_l1Rd_pick.calls k g s0_0 t260 14 t262 t263 w0 _ ?side1 ?side2 A4.out).mono ?_); (case side1 => repeat (first | (with_reducible first | exact HI0.out | apply IsS106.alloc | apply IsS106.drewN | apply IsS106.drew | apply IsS106.set_1 | refine IsS106.far ?_ NB0_255.out _ | refine IsS106.far ?_ NB0_261.out _) | exact HI0.out)); (case side2 => repeat (first | (with_reducible first | exact HB.out | apply below_alloc | apply pw_below_drewN | apply below_drew1 | refine below_set ?_ (IsS106.ge HI0.out) | refine below_set ?_ GE255.out | refine below_set ?_ GE261.out) | exact HB.out)); rintro e w14 ⟨rfl, hi, hb, hk⟩; refine ⟨_, rfl, ?_⟩; have n0_ := Aside0.mk (KeepBut.blk hk (g' := gb255) (o := .cells #[.string (⟨#[]⟩ : ByteArray), .slice none 0 0] 37 (0, 0)) u41_ NB255_0.out u89_); have n1_ := Aside0.mk (Kd.R_mono (Kd.R_keep (IsS106.apart (show IsS106 w0 _ g s0_0 t260 from by repeat (first | (with_reducible first | exact HI0.out | apply IsS106.alloc | apply IsS106.drewN | apply IsS106.drew | apply IsS106.set_1 | refine IsS106.far ?_ NB0_255.out _ | refine IsS106.far ?_ NB0_261.out _) | exact HI0.out)) (by (with_reducible repeat (first | apply Kd.R_alloc | apply Kd.R_drewN | apply Kd.R_drew)); exact (Kd.R_mono (Kd.R_far (p := ⟨gb261, 1, none⟩) (Kd.R_far (p := ⟨gb261, 0, none⟩) (Kd.R_types HO259.out BK261.out u39_) (fun _ hk => hk.2) (.string t256)) (fun _ hk => hk.2) (.slice Ao13 t257.length co13)) (fun _ h_ => h_.1))) u39_) hk (fun _ h => h.2)) (fun _ h => h.1)); have n2_ := Aside0.mk (KeepBut.blk hk (g' := gb261) (o := .cells #[.string t256, .slice Ao13 t257.length co13] 37 (0, 0)) u34_ NB261_0.out u89_); have n3_ := Aside0.mk (KeepBut.trans u8_ hk (.inl rfl)); have n4_ := Aside0.mk (hb); have n5_ := Aside0.mk (hi); clear BK255; clear HO259; clear BK261; clear HK; clear HB; clear HI0; have BK255 := n0_; have HO259 := n1_; have BK261 := n2_; have HK := n3_; have HB := n4_; have HI0 := n5_; clear n0_ n1_ n2_ n3_ n4_ n5_; (try clear hb); (try clear hb2); (try clear hk); (try clear hi)) | ((with_reducible refine gate_dst (N := 14) rfl ?_); refine Kd.R_lit Kd.string _ 9 ?hg (N := 14) ?hd (xs := ([(⟨#[]⟩ : ByteArray), (⟨#[65]⟩ : ByteArray), (⟨#[110, 105, 110, 101, 108, 101, 116, 116, 101]⟩ : ByteArray)] : List ByteArray)) (inner := [.string (⟨#[]⟩ : ByteArray), .string (⟨#[65]⟩ : ByteArray), .string (⟨#[110, 105, 110, 101, 108, 101, 116, 116, 101]⟩ : ByteArray)]) (ok := fun _ => True) (okp := fun _ => True) ?hr ?hp (fun _ hk => hk) trivial (Below.refl _ _) (Nat.le_refl _) u89_ ?_; (case hd => rfl); (case hg => rfl); (case hr => first | (go_simp; done) | (go_simp; rfl)); (case hp => exact (Reps.one (show Kd.M Kd.string _ _ _ (⟨#[]⟩ : ByteArray) [.string (⟨#[]⟩ : ByteArray)] from rfl) (Reps.one (show Kd.M Kd.string _ _ _ (⟨#[65]⟩ : ByteArray) [.string (⟨#[65]⟩ : ByteArray)] from rfl) (Reps.one (show Kd.M Kd.string _ _ _ (⟨#[110, 105, 110, 101, 108, 101, 116, 116, 101]⟩ : ByteArray) [.string (⟨#[110, 105, 110, 101, 108, 101, 116, 116, 101]⟩ : ByteArray)] from rfl) (Reps.none _ _))))); intro v265 w15 ho16 hb hg_ hnew_; clear hg_ hnew_; (first | rw [← Ny264.out] at ho16 | (simp only [Int.reduceToNat] at ho16; rw [← Ny264.out] at ho16)); have n0_ := Aside0.mk (Kd.R_below u36_ hb); have n1_ := Aside0.mk (Kd.R_lower ho16 (keep_size (w := w) (g := g) (row := none) u8_)); have n2_ := Aside0.mk (IsS106.below u30_ hb); have n3_ := Aside0.mk (blk_below (g := gb255) (o := .cells #[.string (⟨#[]⟩ : ByteArray), .slice none 0 0] 37 (0, 0)) u20_ hb); have n4_ := Aside0.mk (blk_below (g := gb261) (o := .cells #[.string t256, .slice Ao13 t257.length co13] 37 (0, 0)) u45_ hb); have n5_ := Aside0.mk (KeepBut.trans u8_ (KeepBut.of_below hb g none) (.inl rfl)); have n6_ := Aside0.mk (below_step u26_ hb); clear HO259; clear HI0; clear BK255; clear BK261; clear HK; clear HB; have HO259 := n0_; have HO266 := n1_; have HI0 := n2_; have BK255 := n3_; have BK261 := n4_; have HK := n5_; have HB := n6_; clear n0_ n1_ n2_ n3_ n4_ n5_ n6_; clear hb ho16; obtain ⟨Ao17, co17, eo17⟩ := Kd.R_slice HO266.out; subst eo17) | ((with_reducible refine gate_callee (f := 78) rfl ?_); refine goesL_ (some 15) rfl rfl Tryd.func78 u17_ rfl #[.pointer (some ⟨g, 0, none⟩), .slice Ao17 y264.length co17] rfl u0_ ?_; (with_reducible refine (spec_l1Rd_of.calls k g s0_0 t263 _ _ y264 t267 t268 w0 _ ?side1 ?side2 ?side3 ?side4 ?side5 A6.out).mono ?_); (case side1 => repeat (first | (with_reducible first | exact HI0.out | apply IsS106.alloc | apply IsS106.drewN | apply IsS106.drew | apply IsS106.set_1 | refine IsS106.far ?_ NB0_255.out _ | refine IsS106.far ?_ NB0_261.out _) | exact HI0.out)); (case side2 => repeat (first | (with_reducible first | exact HB.out | apply below_alloc | apply pw_below_drewN | apply below_drew1 | refine below_set ?_ (IsS106.ge HI0.out) | refine below_set ?_ GE255.out | refine below_set ?_ GE261.out) | exact HB.out)); (case side3 => repeat (first | exact (Kd.R_reads' HO266.out).2.2 | (with_reducible refine Kd.C_alloc ?_ _) | (with_reducible refine Kd.C_drewN ?_ _) | (with_reducible refine Kd.C_drew ?_))); (case side4 => exact (Kd.R_reads' HO266.out).2.1); (case side5 => exact far_slice (IsS106.own_ne HI0.out HO266.out u39_)); rintro e w18 ⟨rfl, hi, hb, hk⟩; refine ⟨_, rfl, ?_⟩; have n0_ := Aside0.mk (KeepBut.blk hk (g' := gb255) (o := .cells #[.string (⟨#[]⟩ : ByteArray), .slice none 0 0] 37 (0, 0)) u20_ NB255_0.out u89_); have n1_ := Aside0.mk (Kd.R_mono (Kd.R_keep (IsS106.apart (show IsS106 w0 _ g s0_0 t263 from by repeat (first | (with_reducible first | exact HI0.out | apply IsS106.alloc | apply IsS106.drewN | apply IsS106.drew | apply IsS106.set_1 | refine IsS106.far ?_ NB0_255.out _ | refine IsS106.far ?_ NB0_261.out _) | exact HI0.out)) u36_ u39_) hk (fun _ h => h.2)) (fun _ h => h.1)); have n2_ := Aside0.mk (KeepBut.blk hk (g' := gb261) (o := .cells #[.string t256, .slice Ao13 t257.length co13] 37 (0, 0)) u45_ NB261_0.out u89_); have n3_ := Aside0.mk (Kd.R_mono (Kd.R_keep (IsS106.apart (show IsS106 w0 _ g s0_0 t263 from by repeat (first | (with_reducible first | exact HI0.out | apply IsS106.alloc | apply IsS106.drewN | apply IsS106.drew | apply IsS106.set_1 | refine IsS106.far ?_ NB0_255.out _ | refine IsS106.far ?_ NB0_261.out _) | exact HI0.out)) (by (with_reducible repeat (first | apply Kd.R_alloc | apply Kd.R_drewN | apply Kd.R_drew)); exact HO266.out) u39_) hk (fun _ h => h.2)) (fun _ h => h.1)); have n4_ := Aside0.mk (KeepBut.trans u8_ hk (.inl rfl)); have n5_ := Aside0.mk (hb); have n6_ := Aside0.mk (hi); clear BK255; clear HO259; clear BK261; clear HO266; clear HK; clear HB; clear HI0; have BK255 := n0_; have HO259 := n1_; have BK261 := n2_; have HO266 := n3_; have HK := n4_; have HB := n5_; have HI0 := n6_; clear n0_ n1_ n2_ n3_ n4_ n5_ n6_; (try clear hb); (try clear hb2); (try clear hk); (try clear hi); have hcz19_0 : w18.cell? ⟨gb261, 0, none⟩ = some (.string t256) := (blk_cell BK261.out 0).trans rfl; have hcz19_1 : w18.cell? ⟨gb261, 1, none⟩ = some (.slice Ao13 t257.length co13) := (blk_cell BK261.out 1).trans rfl; have hfz19_0 := blk_frozen BK261.out 0; have hfz19_1 := blk_frozen BK261.out 1; have hnb20 := NB255_0.out; have hnc20 := NB0_255.out; have hcz21_0 : w18.cell? ⟨gb255, 0, none⟩ = some (.string (⟨#[]⟩ : ByteArray)) := (blk_cell BK255.out 0).trans rfl; have hcz21_1 : w18.cell? ⟨gb255, 1, none⟩ = some (.slice none 0 0) := (blk_cell BK255.out 1).trans rfl; have hfz21_0 := blk_frozen BK255.out 0; have hfz21_1 := blk_frozen BK255.out 1))
  refine bodyPost_ret (results_cell_row rfl _ _ gb255 37 #[.string t267, .slice Ao13 t257.length co13] (0, 0) _ rfl (by (with_reducible repeat (first | refine blk_drewN ?_ _ | refine blk_drew ?_ | refine blk_alloc ?_ _)); refine blk_put (cs := #[.string t267, .slice none 0 0]) ?_ 1 _ rfl; (with_reducible repeat (first | refine blk_drewN ?_ _ | refine blk_drew ?_ | refine blk_alloc ?_ _)); refine blk_put (cs := #[.string (⟨#[]⟩ : ByteArray), .slice none 0 0]) ?_ 0 _ rfl; (with_reducible repeat (first | refine blk_drewN ?_ _ | refine blk_drew ?_ | refine blk_alloc ?_ _)); refine blk_far ?_ NB255_261.out _; (with_reducible repeat (first | refine blk_drewN ?_ _ | refine blk_drew ?_ | refine blk_alloc ?_ _)); exact BK255.out) Tryd.underlying37 rfl u17_) rfl ?_
  exact ⟨_, u7_, by (with_reducible repeat (first | apply Kd.R_alloc | apply Kd.R_drewN | apply Kd.R_drew)); exact Kd.R_mono (Kd.R_far (p := ⟨gb255, 1, none⟩) (Kd.R_far (p := ⟨gb255, 0, none⟩) (Kd.R_far (p := ⟨gb261, 0, none⟩) (Kd.R_types (Kd.R_types HO259.out BK261.out u39_) BK255.out u39_) (fun _ hk => hk.1.2) (.string t267)) (fun _ hk => hk.2) (.string t267)) (fun _ hk => hk.2) (.slice Ao13 t257.length co13)) (fun _ hk => trivial), u30_, u26_, u8_⟩
 ·rw [if_neg c5] at H
  have c5b0 : (t262 == 0) = false := beq_eq_false_iff_ne.mpr c5
  have c5b1 : (t262 != 0) = true := bne_iff_ne.mpr c5
  by_cases c22 : t262 = 1
  ·rw [if_pos c22] at H
   have c22b0 : (t262 == 1) = true := beq_iff_eq.mpr c22
   have c22b1 : (t262 != 1) = false := bne_eq_false_iff_eq.mpr c22
   clear c22
   obtain ⟨y269, hy269⟩ : ∃ y_ : List ByteArray, y_ = (([(⟨#[122, 122]⟩ : ByteArray), (⟨#[98, 111, 100, 121]⟩ : ByteArray), (⟨#[]⟩ : ByteArray)] : List ByteArray)) := ⟨_, rfl⟩
   replace H : ((spec_l1Rd_of.f k s0_0 t263 y269).bind fun bt272 => ((spec_l11AnyText.f k s0_0 bt272.2).bind fun bt274 => (if t257.length < 4398046511104 then (some (t256, (t257 ++ [(⟨bt272.1, bt274.1⟩ : S74)]), bt274.2)) else (none)))) = some (r1, r2, r3) := by first | (rw [hy269]; with_reducible exact H) | (have H2_ := (Option.bind_some _ _).symm.trans H; rw [hy269]; with_reducible exact H2_) | (have H2_ := (Option.bind_some _ _).symm.trans H; with_reducible exact H2_) | with_reducible exact H | (rw [hy269]; exact H) | exact H
   have Ny269 := Aside0.mk hy269
   clear hy269
   replace H := Option.bind_eq_some_iff.mp H
   obtain ⟨⟨t272, t273⟩, A230, H⟩ := H
   replace H : ((spec_l11AnyText.f k s0_0 t273).bind fun bt274 => (if t257.length < 4398046511104 then (some (t256, (t257 ++ [(⟨t272, bt274.1⟩ : S74)]), bt274.2)) else (none))) = some (r1, r2, r3) := H
   have A23 := Aside0.mk A230
   clear A230
   replace H := Option.bind_eq_some_iff.mp H
   obtain ⟨⟨t274, t275⟩, A240, H⟩ := H
   replace H : (if t257.length < 4398046511104 then (some (t256, (t257 ++ [(⟨t272, t274⟩ : S74)]), t275)) else (none)) = some (r1, r2, r3) := H
   have A24 := Aside0.mk A240
   clear A240
   by_cases c25 : t257.length < 4398046511104
   ·rw [if_pos c25] at H
    have LMc25 := Aside0.mk c25
    clear c25
    obtain ⟨y276, hy276⟩ : ∃ y_ : List (S74), y_ = (t257 ++ [(⟨t272, t274⟩ : S74)]) := ⟨_, rfl⟩
    replace H : (some (t256, y276, t275)) = some (r1, r2, r3) := by first | (rw [hy276]; with_reducible exact H) | (have H2_ := (Option.bind_some _ _).symm.trans H; rw [hy276]; with_reducible exact H2_) | (have H2_ := (Option.bind_some _ _).symm.trans H; with_reducible exact H2_) | with_reducible exact H | (rw [hy276]; exact H) | exact H
    have Ny276 := Aside0.mk hy276
    clear hy276
    simp only [Option.some.injEq, Prod.mk.injEq] at H
    obtain ⟨rfl, rfl, rfl⟩ := H
    go_enter Tryd.func62, Tryd.ntmps62
    try go_wp2_with (first | ((with_reducible refine gate_dst (N := 4) rfl ?_); refine box_event ?hg (N := 4) ?hd (cs := #[.string (⟨#[]⟩ : ByteArray), .slice none 0 0]) (t := 37) ?hr ?_; (case hd => rfl); (case hg => rfl); (case hr => first | (go_simp; done) | (go_simp; rfl)); intro gb255 hg w26 hbox hb; have n0_ := Aside0.mk (IsS106.below u19_ hb); have n1_ := Aside0.mk (KeepBut.trans u2_ (KeepBut.of_below hb g none) (.inl rfl)); have n2_ := Aside0.mk (below_step u14_ hb); have n3_ := Aside0.mk (hbox); have n4_ := Aside0.mk ((by rw [hg]; exact (keep_size (w := w) (g := g) (row := none) u2_) : w.heap.size ≤ gb255)); have n5_ := Aside0.mk ((Nat.le_trans HW0.out (by rw [hg]; exact (keep_size (w := w) (g := g) (row := none) u2_) : w.heap.size ≤ gb255) : w0.heap.size ≤ gb255)); have n6_ := Aside0.mk ((by rw [hg]; exact Nat.ne_of_lt (IsS106.lt (show IsS106 w0 _ g s0_0 s0_1 from by repeat (first | (with_reducible first | exact HI0.out | apply IsS106.alloc | apply IsS106.drewN | apply IsS106.drew | apply IsS106.set_1) | exact HI0.out))) : g ≠ gb255)); have n7_ := Aside0.mk ((by rw [hg]; exact Nat.ne_of_gt (IsS106.lt (show IsS106 w0 _ g s0_0 s0_1 from by repeat (first | (with_reducible first | exact HI0.out | apply IsS106.alloc | apply IsS106.drewN | apply IsS106.drew | apply IsS106.set_1) | exact HI0.out))) : gb255 ≠ g)); clear HI0; clear HK; clear HB; have HI0 := n0_; have HK := n1_; have HB := n2_; have BK255 := n3_; have GW255 := n4_; have GE255 := n5_; have NB0_255 := n6_; have NB255_0 := n7_; clear n0_ n1_ n2_ n3_ n4_ n5_ n6_ n7_; clear hb hbox hg) | ((with_reducible refine gate_callee (f := 65) rfl ?_); refine goesL_ (some 8) rfl rfl Tryd.func65 u17_ rfl #[.pointer (some ⟨g, 0, none⟩), .slice A1 l1.length c1] rfl u0_ ?_; (with_reducible refine (spec_l11Doc.calls k g s0_0 s0_1 _ _ l1 t256 t257 t260 w0 _ ?side1 ?side2 ?side3 ?side4 A3.out).mono ?_); (case side1 => repeat (first | (with_reducible first | exact HI0.out | apply IsS106.alloc | apply IsS106.drewN | apply IsS106.drew | apply IsS106.set_1 | refine IsS106.far ?_ NB0_255.out _) | exact HI0.out)); (case side2 => repeat (first | (with_reducible first | exact HB.out | apply below_alloc | apply pw_below_drewN | apply below_drew1 | refine below_set ?_ (IsS106.ge HI0.out) | refine below_set ?_ GE255.out) | exact HB.out)); (case side3 => exact Kd.C_foot_step HR1.out u11_); (case side4 => exact HC1.out); rintro e w27 ⟨v258, rfl, ho0, hi, hb, hk⟩; refine ⟨_, rfl, ?_⟩; have n0_ := Aside0.mk (KeepBut.blk hk (g' := gb255) (o := .cells #[.string (⟨#[]⟩ : ByteArray), .slice none 0 0] 37 (0, 0)) u20_ NB255_0.out u89_); have n1_ := Aside0.mk (Kd.R_lower ho0 (keep_size (w := w) (g := g) (row := none) u11_)); have n2_ := Aside0.mk (KeepBut.trans u11_ hk (.inl rfl)); have n3_ := Aside0.mk (hb); have n4_ := Aside0.mk (hi); clear BK255; clear HK; clear HB; clear HI0; have BK255 := n0_; have HO259 := n1_; have HK := n2_; have HB := n3_; have HI0 := n4_; clear n0_ n1_ n2_ n3_ n4_; (try clear hb); (try clear hb2); (try clear hk); (try clear hi); (try clear ho0)) | ((with_reducible refine gate_dst (N := 5) rfl ?_); refine box_event ?hg (N := 5) ?hd (cs := #[.string (⟨#[]⟩ : ByteArray), .slice none 0 0]) (t := 37) ?hr ?_; (case hd => rfl); (case hg => rfl); (case hr => first | (go_simp; done) | (go_simp; rfl)); intro gb261 hg w28 hbox hb; have n0_ := Aside0.mk (Kd.R_below u36_ hb); have n1_ := Aside0.mk (IsS106.below u80_ hb); have n2_ := Aside0.mk (blk_below (g := gb255) (o := .cells #[.string (⟨#[]⟩ : ByteArray), .slice none 0 0] 37 (0, 0)) u20_ hb); have n3_ := Aside0.mk (KeepBut.trans u11_ (KeepBut.of_below hb g none) (.inl rfl)); have n4_ := Aside0.mk (below_step u71_ hb); have n5_ := Aside0.mk (hbox); have n6_ := Aside0.mk ((by rw [hg]; exact (keep_size (w := w) (g := g) (row := none) u11_) : w.heap.size ≤ gb261)); have n7_ := Aside0.mk ((Nat.le_trans HW0.out (by rw [hg]; exact (keep_size (w := w) (g := g) (row := none) u11_) : w.heap.size ≤ gb261) : w0.heap.size ≤ gb261)); have n8_ := Aside0.mk ((by rw [hg]; exact Nat.ne_of_lt (blk_lt (g := gb255) (o := .cells #[.string (⟨#[]⟩ : ByteArray), .slice none 0 0] 37 (0, 0)) u20_) : gb255 ≠ gb261)); have n9_ := Aside0.mk ((by rw [hg]; exact Nat.ne_of_gt (blk_lt (g := gb255) (o := .cells #[.string (⟨#[]⟩ : ByteArray), .slice none 0 0] 37 (0, 0)) u20_) : gb261 ≠ gb255)); have n10_ := Aside0.mk ((by rw [hg]; exact Nat.ne_of_lt (IsS106.lt (show IsS106 w0 _ g s0_0 t260 from by repeat (first | (with_reducible first | exact HI0.out | apply IsS106.alloc | apply IsS106.drewN | apply IsS106.drew | apply IsS106.set_1 | refine IsS106.far ?_ NB0_255.out _) | exact HI0.out))) : g ≠ gb261)); have n11_ := Aside0.mk ((by rw [hg]; exact Nat.ne_of_gt (IsS106.lt (show IsS106 w0 _ g s0_0 t260 from by repeat (first | (with_reducible first | exact HI0.out | apply IsS106.alloc | apply IsS106.drewN | apply IsS106.drew | apply IsS106.set_1 | refine IsS106.far ?_ NB0_255.out _) | exact HI0.out))) : gb261 ≠ g)); clear HO259; clear HI0; clear BK255; clear HK; clear HB; have HO259 := n0_; have HI0 := n1_; have BK255 := n2_; have HK := n3_; have HB := n4_; have BK261 := n5_; have GW261 := n6_; have GE261 := n7_; have NB255_261 := n8_; have NB261_255 := n9_; have NB0_261 := n10_; have NB261_0 := n11_; clear n0_ n1_ n2_ n3_ n4_ n5_ n6_ n7_ n8_ n9_ n10_ n11_; clear hb hbox hg; have hnb29 := NB261_255.out; have hnc29 := NB255_261.out; have hnb30 := NB261_0.out; have hnc30 := NB0_261.out; have hcz31_0 : w28.cell? ⟨gb261, 0, none⟩ = some (.string (⟨#[]⟩ : ByteArray)) := (blk_cell BK261.out 0).trans rfl; have hcz31_1 : w28.cell? ⟨gb261, 1, none⟩ = some (.slice none 0 0) := (blk_cell BK261.out 1).trans rfl; have hfz31_0 := blk_frozen BK261.out 0; have hfz31_1 := blk_frozen BK261.out 1; obtain ⟨Ao32, co32, eo32⟩ := Kd.R_slice HO259.out; subst eo32) | ((with_reducible refine gate_callee (f := 77) rfl ?_); refine goesL_ (some 10) rfl rfl Tryd.func77 u17_ rfl #[.pointer (some ⟨g, 0, none⟩), .int .i64 14] rfl u0_ ?_; (with_reducible refine (spec_l1Rd_pick.calls k g s0_0 t260 14 t262 t263 w0 _ ?side1 ?side2 A4.out).mono ?_); (case side1 => repeat (first | (with_reducible first | exact HI0.out | apply IsS106.alloc | apply IsS106.drewN | apply IsS106.drew | apply IsS106.set_1 | refine IsS106.far ?_ NB0_255.out _ | refine IsS106.far ?_ NB0_261.out _) | exact HI0.out)); (case side2 => repeat (first | (with_reducible first | exact HB.out | apply below_alloc | apply pw_below_drewN | apply below_drew1 | refine below_set ?_ (IsS106.ge HI0.out) | refine below_set ?_ GE255.out | refine below_set ?_ GE261.out) | exact HB.out)); rintro e w33 ⟨rfl, hi, hb, hk⟩; refine ⟨_, rfl, ?_⟩; have n0_ := Aside0.mk (KeepBut.blk hk (g' := gb255) (o := .cells #[.string (⟨#[]⟩ : ByteArray), .slice none 0 0] 37 (0, 0)) u41_ NB255_0.out u89_); have n1_ := Aside0.mk (Kd.R_mono (Kd.R_keep (IsS106.apart (show IsS106 w0 _ g s0_0 t260 from by repeat (first | (with_reducible first | exact HI0.out | apply IsS106.alloc | apply IsS106.drewN | apply IsS106.drew | apply IsS106.set_1 | refine IsS106.far ?_ NB0_255.out _ | refine IsS106.far ?_ NB0_261.out _) | exact HI0.out)) (by (with_reducible repeat (first | apply Kd.R_alloc | apply Kd.R_drewN | apply Kd.R_drew)); exact (Kd.R_mono (Kd.R_far (p := ⟨gb261, 1, none⟩) (Kd.R_far (p := ⟨gb261, 0, none⟩) (Kd.R_types HO259.out BK261.out u39_) (fun _ hk => hk.2) (.string t256)) (fun _ hk => hk.2) (.slice Ao32 t257.length co32)) (fun _ h_ => h_.1))) u39_) hk (fun _ h => h.2)) (fun _ h => h.1)); have n2_ := Aside0.mk (KeepBut.blk hk (g' := gb261) (o := .cells #[.string t256, .slice Ao32 t257.length co32] 37 (0, 0)) u34_ NB261_0.out u89_); have n3_ := Aside0.mk (KeepBut.trans u8_ hk (.inl rfl)); have n4_ := Aside0.mk (hb); have n5_ := Aside0.mk (hi); clear BK255; clear HO259; clear BK261; clear HK; clear HB; clear HI0; have BK255 := n0_; have HO259 := n1_; have BK261 := n2_; have HK := n3_; have HB := n4_; have HI0 := n5_; clear n0_ n1_ n2_ n3_ n4_ n5_; (try clear hb); (try clear hb2); (try clear hk); (try clear hi)))
    have n0_ := Aside0.mk (Kd.R_drew HO259.out)
    have n1_ := Aside0.mk (blk_drew BK255.out)
    have n2_ := Aside0.mk (blk_drew BK261.out)
    have n3_ := Aside0.mk (IsS106.drew HI0.out)
    have n4_ := Aside0.mk (keep_drew HK.out)
    have n5_ := Aside0.mk (below_drew1 HB.out)
    clear HO259
    clear BK255
    clear BK261
    clear HI0
    clear HK
    clear HB
    have HO259 := n0_
    have BK255 := n1_
    have BK261 := n2_
    have HI0 := n3_
    have HK := n4_
    have HB := n5_
    clear n0_ n1_ n2_ n3_ n4_ n5_
    refine start_ (n := 12) (S := fun w' => w'.cell? ⟨gb261, 0, none⟩ = some (.string t256) ∧ w'.cell? ⟨gb261, 1, none⟩ = some (.slice Ao32 t257.length co32)) (ds := [11]) #[false, false, false, false, false, false, false, false, false, false, false, false] u17_ rfl rfl ⟨(blk_cell BK261.out 0).trans rfl, (blk_cell BK261.out 1).trans rfl⟩ (fun hHeld => ?_); refine with_tabW spec_l11AnyDoc.tab6 spec_l11AnyDoc.bits6 (fun HT_ HW_ => ?_)
    generalize w33.drew = w34 at HO259 BK255 BK261 HI0 HK HB hHeld ⊢
    refine pure_ (i := 0) (N := some 19) (v := ?_) (a' := ?_) #[true, false, false, false, false, false, false, false, false, false, false, false] rfl rfl (any_of HT_.out u17_) (fun _ _ _ h => h) (Or.inl ⟨u67_, ?_⟩) ?_ ?_
    rotate_left
    ·intro w'
     go_simp
     with_reducible rfl
    rotate_left
    ·simp only [Act.put, List.setIfInBounds_toArray, List.set_cons_zero, List.set_cons_succ, i64_w, i32_w]
     rfl
    refine pure_ (i := 2) (N := some 21) (v := ?_) (a' := ?_) #[true, false, true, false, false, false, false, false, false, false, false, false] rfl rfl (any_of HT_.out u17_) (fun _ _ _ h => h) (Or.inl ⟨u67_, ?_⟩) ?_ ?_
    rotate_left
    ·intro w'
     go_simp
     with_reducible rfl
    rotate_left
    ·simp only [Act.put, List.setIfInBounds_toArray, List.set_cons_zero, List.set_cons_succ, i64_w, i32_w]
     rfl
    refine pure_ (i := 5) (N := some 24) (v := ?_) (a' := ?_) #[true, false, true, false, false, true, false, false, false, false, false, false] rfl rfl (any_of HT_.out u17_) (fun _ _ _ h => h) (Or.inl ⟨u67_, ?_⟩) ?_ ?_
    rotate_left
    ·intro w'
     go_simp
     with_reducible rfl
    rotate_left
    ·simp only [Act.put, List.setIfInBounds_toArray, List.set_cons_zero, List.set_cons_succ, i64_w, i32_w]
     rfl
    refine take_ (i := 1) (N := some 20) (v := ?_) (a' := ?_) #[true, true, true, false, false, true, false, false, false, false, false, false] rfl rfl (take_ofW HT_.out HW_.out u17_) (fun _ _ _ h => h) (Or.inl ⟨u67_, ?_⟩) hHeld ?_ ?_
    rotate_left
    ·rintro w' ⟨s0, s1⟩
     go_simp
     with_reducible rfl
    rotate_left
    ·simp only [Act.put, List.setIfInBounds_toArray, List.set_cons_zero, List.set_cons_succ, i64_w, i32_w]
     rfl
    refine one_ (i := 3) (N := some 22) #[true, true, true, true, false, true, false, false, false, false, false, false] rfl rfl (one_of HT_.out u17_) u39_ (fun K hK => ?_)
    refine Kd.R_lit_step Kd.string _ 9 ?hg (N := 22) ?hd (xs := ([(⟨#[122, 122]⟩ : ByteArray), (⟨#[98, 111, 100, 121]⟩ : ByteArray), (⟨#[]⟩ : ByteArray)] : List ByteArray)) (inner := [.string (⟨#[122, 122]⟩ : ByteArray), .string (⟨#[98, 111, 100, 121]⟩ : ByteArray), .string (⟨#[]⟩ : ByteArray)]) (ok := fun _ => True) (okp := fun _ => True) ?hr ?hp (fun _ hk => hk) trivial (Below.refl _ _) (Nat.le_refl _) u89_ ?_; (case hd => rfl); (case hg => rfl); (case hr => first | (go_simp; done) | (go_simp; rfl)); (case hp => exact (Reps.one (show Kd.M Kd.string _ _ _ (⟨#[122, 122]⟩ : ByteArray) [.string (⟨#[122, 122]⟩ : ByteArray)] from rfl) (Reps.one (show Kd.M Kd.string _ _ _ (⟨#[98, 111, 100, 121]⟩ : ByteArray) [.string (⟨#[98, 111, 100, 121]⟩ : ByteArray)] from rfl) (Reps.one (show Kd.M Kd.string _ _ _ (⟨#[]⟩ : ByteArray) [.string (⟨#[]⟩ : ByteArray)] from rfl) (Reps.none _ _)))))
    intro v270 w35 ho36 hb hg_ hnew_
    clear hg_ hnew_
    (first | rw [← Ny269.out] at ho36 | (simp only [Int.reduceToNat] at ho36; rw [← Ny269.out] at ho36))
    have n0_ := Aside0.mk (Kd.R_below u36_ hb)
    have n1_ := Aside0.mk (Kd.R_lower ho36 (keep_size (w := w) (g := g) (row := none) u8_))
    have n2_ := Aside0.mk (IsS106.below u30_ hb)
    have n3_ := Aside0.mk (blk_below (g := gb255) (o := .cells #[.string (⟨#[]⟩ : ByteArray), .slice none 0 0] 37 (0, 0)) u20_ hb)
    have n4_ := Aside0.mk (blk_below (g := gb261) (o := .cells #[.string t256, .slice Ao32 t257.length co32] 37 (0, 0)) u45_ hb)
    have n5_ := Aside0.mk (KeepBut.trans u8_ (KeepBut.of_below hb g none) (.inl rfl))
    have n6_ := Aside0.mk (below_step u26_ hb)
    clear HO259
    clear HI0
    clear BK255
    clear BK261
    clear HK
    clear HB
    have HO259 := n0_
    have HO271 := n1_
    have HI0 := n2_
    have BK255 := n3_
    have BK261 := n4_
    have HK := n5_
    have HB := n6_
    clear n0_ n1_ n2_ n3_ n4_ n5_ n6_
    clear hb ho36
    obtain ⟨Ao37, co37, eo37⟩ := Kd.R_slice HO271.out
    (first | subst eo37 | (injection eo37 with f1_ f2_ f3_; have f4_ := f1_.symm; have f5_ := f3_.symm; clear f1_ f2_ f3_; subst f4_; subst f5_))
    refine hK.out _ _ ⟨(blk_cell BK261.out 0).trans rfl, (blk_cell BK261.out 1).trans rfl⟩ (fun hHeld => ?_)
    clear hK K
    refine norm_ (a' := ?_) ?_ ?_
    rotate_left
    ·show Act.put _ (some 22) _ = _
     simp only [Act.put, List.setIfInBounds_toArray, List.set_cons_zero, List.set_cons_succ, i64_w, i32_w]
     rfl
    refine one_ (i := 4) (N := some 23) #[true, true, true, true, true, true, false, false, false, false, false, false] rfl rfl (one_of HT_.out u17_) u39_ (fun K hK => ?_)
    refine goes_ Tryd.func78 u17_ rfl #[.pointer (some ⟨g, 0, none⟩), .slice Ao37 y269.length co37] u67_ rfl rfl u0_ ?_
    with_reducible refine (spec_l1Rd_of.calls k g s0_0 t263 _ _ y269 t272 t273 w0 _ ?side1 ?side2 ?side3 ?side4 ?side5 A23.out).mono ?_
    (case side1 => repeat (first | (with_reducible first | exact HI0.out | apply IsS106.alloc | apply IsS106.drewN | apply IsS106.drew | apply IsS106.set_1 | refine IsS106.far ?_ NB0_255.out _ | refine IsS106.far ?_ NB0_261.out _) | exact HI0.out))
    (case side2 => repeat (first | (with_reducible first | exact HB.out | apply below_alloc | apply pw_below_drewN | apply below_drew1 | refine below_set ?_ (IsS106.ge HI0.out) | refine below_set ?_ GE255.out | refine below_set ?_ GE261.out) | exact HB.out))
    (case side3 => repeat (first | exact (Kd.R_reads' HO271.out).2.2 | (with_reducible refine Kd.C_alloc ?_ _) | (with_reducible refine Kd.C_drewN ?_ _) | (with_reducible refine Kd.C_drew ?_)))
    (case side4 => exact (Kd.R_reads' HO271.out).2.1)
    (case side5 => exact far_slice (IsS106.own_ne HI0.out HO271.out u39_))
    rintro e w38 ⟨rfl, hi, hb, hk⟩
    refine ⟨_, rfl, ?_⟩
    have n0_ := Aside0.mk (KeepBut.blk hk (g' := gb255) (o := .cells #[.string (⟨#[]⟩ : ByteArray), .slice none 0 0] 37 (0, 0)) u20_ NB255_0.out u89_)
    have n1_ := Aside0.mk (Kd.R_mono (Kd.R_keep (IsS106.apart (show IsS106 w0 _ g s0_0 t263 from by repeat (first | (with_reducible first | exact HI0.out | apply IsS106.alloc | apply IsS106.drewN | apply IsS106.drew | apply IsS106.set_1 | refine IsS106.far ?_ NB0_255.out _ | refine IsS106.far ?_ NB0_261.out _) | exact HI0.out)) u36_ u39_) hk (fun _ h => h.2)) (fun _ h => h.1))
    have n2_ := Aside0.mk (KeepBut.blk hk (g' := gb261) (o := .cells #[.string t256, .slice Ao32 t257.length co32] 37 (0, 0)) u45_ NB261_0.out u89_)
    have n3_ := Aside0.mk (Kd.R_mono (Kd.R_keep (IsS106.apart (show IsS106 w0 _ g s0_0 t263 from by repeat (first | (with_reducible first | exact HI0.out | apply IsS106.alloc | apply IsS106.drewN | apply IsS106.drew | apply IsS106.set_1 | refine IsS106.far ?_ NB0_255.out _ | refine IsS106.far ?_ NB0_261.out _) | exact HI0.out)) u114_ u39_) hk (fun _ h => h.2)) (fun _ h => h.1))
    have n4_ := Aside0.mk (KeepBut.trans u8_ hk (.inl rfl))
    have n5_ := Aside0.mk (hb)
    have n6_ := Aside0.mk (hi)
    clear BK255
    clear HO259
    clear BK261
    clear HO271
    clear HK
    clear HB
    clear HI0
    have BK255 := n0_
    have HO259 := n1_
    have BK261 := n2_
    have HO271 := n3_
    have HK := n4_
    have HB := n5_
    have HI0 := n6_
    clear n0_ n1_ n2_ n3_ n4_ n5_ n6_
    (try clear hb)
    (try clear hb2)
    (try clear hk)
    (try clear hi)
    refine hK.out _ _ ⟨(blk_cell BK261.out 0).trans rfl, (blk_cell BK261.out 1).trans rfl⟩ (fun hHeld => ?_)
    clear hK K
    refine norm_ (a' := ?_) ?_ ?_
    rotate_left
    ·show Act.put _ (some 23) _ = _
     simp only [Act.put, List.setIfInBounds_toArray, List.set_cons_zero, List.set_cons_succ, i64_w, i32_w]
     rfl
    refine one_ (i := 6) (N := some 25) #[true, true, true, true, true, true, true, false, false, false, false, false] rfl rfl (one_of HT_.out u17_) u39_ (fun K hK => ?_)
    refine goes_ Tryd.func89 u17_ rfl #[.pointer (some ⟨g, 0, none⟩)] u67_ rfl rfl u0_ ?_
    with_reducible refine (spec_l11AnyText.calls k g s0_0 t273 t274 t275 w0 _ ?side1 ?side2 A24.out).mono ?_
    (case side1 => repeat (first | (with_reducible first | exact HI0.out | apply IsS106.alloc | apply IsS106.drewN | apply IsS106.drew | apply IsS106.set_1 | refine IsS106.far ?_ NB0_255.out _ | refine IsS106.far ?_ NB0_261.out _) | exact HI0.out))
    (case side2 => repeat (first | (with_reducible first | exact HB.out | apply below_alloc | apply pw_below_drewN | apply below_drew1 | refine below_set ?_ (IsS106.ge HI0.out) | refine below_set ?_ GE255.out | refine below_set ?_ GE261.out) | exact HB.out))
    rintro e w39 ⟨rfl, hi, hb, hk⟩
    refine ⟨_, rfl, ?_⟩
    have n0_ := Aside0.mk (KeepBut.blk hk (g' := gb255) (o := .cells #[.string (⟨#[]⟩ : ByteArray), .slice none 0 0] 37 (0, 0)) u20_ NB255_0.out u89_)
    have n1_ := Aside0.mk (Kd.R_mono (Kd.R_keep (IsS106.apart (show IsS106 w0 _ g s0_0 t273 from by repeat (first | (with_reducible first | exact HI0.out | apply IsS106.alloc | apply IsS106.drewN | apply IsS106.drew | apply IsS106.set_1 | refine IsS106.far ?_ NB0_255.out _ | refine IsS106.far ?_ NB0_261.out _) | exact HI0.out)) u36_ u39_) hk (fun _ h => h.2)) (fun _ h => h.1))
    have n2_ := Aside0.mk (KeepBut.blk hk (g' := gb261) (o := .cells #[.string t256, .slice Ao32 t257.length co32] 37 (0, 0)) u45_ NB261_0.out u89_)
    have n3_ := Aside0.mk (Kd.R_mono (Kd.R_keep (IsS106.apart (show IsS106 w0 _ g s0_0 t273 from by repeat (first | (with_reducible first | exact HI0.out | apply IsS106.alloc | apply IsS106.drewN | apply IsS106.drew | apply IsS106.set_1 | refine IsS106.far ?_ NB0_255.out _ | refine IsS106.far ?_ NB0_261.out _) | exact HI0.out)) u114_ u39_) hk (fun _ h => h.2)) (fun _ h => h.1))
    have n4_ := Aside0.mk (KeepBut.trans u8_ hk (.inl rfl))
    have n5_ := Aside0.mk (hb)
    have n6_ := Aside0.mk (hi)
    clear BK255
    clear HO259
    clear BK261
    clear HO271
    clear HK
    clear HB
    clear HI0
    have BK255 := n0_
    have HO259 := n1_
    have BK261 := n2_
    have HO271 := n3_
    have HK := n4_
    have HB := n5_
    have HI0 := n6_
    clear n0_ n1_ n2_ n3_ n4_ n5_ n6_
    (try clear hb)
    (try clear hb2)
    (try clear hk)
    (try clear hi)
    refine hK.out _ _ ⟨(blk_cell BK261.out 0).trans rfl, (blk_cell BK261.out 1).trans rfl⟩ (fun hHeld => ?_)
    clear hK K
    refine norm_ (a' := ?_) ?_ ?_
    rotate_left
    ·show Act.put _ (some 25) _ = _
     simp only [Act.put, List.setIfInBounds_toArray, List.set_cons_zero, List.set_cons_succ, i64_w, i32_w]
     rfl
    refine pure_ (i := 7) (N := some 26) (v := ?_) (a' := ?_) #[true, true, true, true, true, true, true, true, false, false, false, false] rfl rfl (any_of HT_.out u17_) (fun _ _ _ h => h) (Or.inl ⟨u67_, ?_⟩) ?_ ?_
    rotate_left
    ·intro w'
     go_simp
     with_reducible rfl
    rotate_left
    ·simp only [Act.put, List.setIfInBounds_toArray, List.set_cons_zero, List.set_cons_succ, i64_w, i32_w]
     rfl
    refine one_ (i := 8) (N := some 27) #[true, true, true, true, true, true, true, true, true, false, false, false] rfl rfl (one_of HT_.out u17_) u39_ (fun K hK => ?_)
    refine value_ (w1 := ?_) (v := ?_) u67_ rfl ?_ ?_
    rotate_left 2
    ·go_simp
     constructor
     ·rfl
     ·rfl
    refine hK.out _ _ ⟨(blk_cell (blk_alloc BK261.out _) 0).trans rfl, (blk_cell (blk_alloc BK261.out _) 1).trans rfl⟩ (fun hHeld => ?_)
    clear hK K
    refine norm_ (a' := ?_) ?_ ?_
    rotate_left
    ·show Act.put _ (some 27) _ = _
     simp only [Act.put, List.setIfInBounds_toArray, List.set_cons_zero, List.set_cons_succ, i64_w, i32_w]
     rfl
    refine one_ (i := 9) (N := some 28) #[true, true, true, true, true, true, true, true, true, true, false, false] rfl rfl (one_of HT_.out u17_) u39_ (fun K hK => ?_)
    refine Kd.R_append_step k74 w.heap.size u67_ (.tmp 20) (.tmp 27) 35 74 (.agg #[(.string ⟨#[]⟩), (.string ⟨#[]⟩)]) 32 rfl Tryd.underlying35 info74 rfl u39_ (by omega) (.slice Ao32 t257.length co32) t257 (⟨t272, t274⟩ : S74) [.string t272, .string t274] (fun _ => True) (fun _ => False) rfl rfl ?aP (fun _ hk => hk.elim) ?aF ?aO (Below.refl _ _) ?aS ?aL ?_
    (case aP => exact k74_mkM _ _ _ (⟨t272, t274⟩ : S74))
    (case aF => exact (fun _ _ => trivial))
    (case aO => exact u36_)
    (case aS => exact (keep_size (w := w) (g := g) (row := none) u8_))
    (case aL => have := LMc25.out; omega)
    intro v277 w40 ho hb hg hat
    rw [← Ny276.out] at ho
    have n0_ := Aside0.mk (IsS106.grown (show IsS106 w0 _ g s0_0 t275 from by repeat (first | (with_reducible first | exact HI0.out | apply IsS106.alloc | apply IsS106.drewN | apply IsS106.drew | apply IsS106.set_1 | refine IsS106.far ?_ NB0_255.out _ | refine IsS106.far ?_ NB0_261.out _) | exact HI0.out)) hg (IsS106.own_ne HI0.out HO259.out u39_))
    have n1_ := Aside0.mk (blk_grown (g := gb255) (o := .cells #[.string (⟨#[]⟩ : ByteArray), .slice none 0 0] 37 (0, 0)) u20_ hg (Kd.R_ne HO259.out BK255.out u39_))
    have n2_ := Aside0.mk (blk_grown (g := gb261) (o := .cells #[.string t256, .slice Ao32 t257.length co32] 37 (0, 0)) u45_ hg (Kd.R_ne HO259.out BK261.out u39_))
    have n3_ := Aside0.mk (Kd.R_over' u114_ (Kd.R_typed u36_) u39_ hg)
    have n4_ := Aside0.mk (below_weaken u26_ HL.out hb)
    have n5_ := Aside0.mk (KeepBut.trans u8_ (KeepBut.of_grown hg g) (Kd.R_base2 HO259.out))
    have n6_ := Aside0.mk (ho)
    clear HI0
    clear BK255
    clear BK261
    clear HO271
    clear HB
    clear HK
    clear HO259
    have HI0 := n0_
    have BK255 := n1_
    have BK261 := n2_
    have HO271 := n3_
    have HB := n4_
    have HK := n5_
    have HO278 := n6_
    clear n0_ n1_ n2_ n3_ n4_ n5_ n6_
    clear ho hb hg hat
    obtain ⟨Ao41, co41, eo41⟩ := Kd.R_slice HO278.out
    (first | subst eo41 | (injection eo41 with f1_ f2_ f3_; have f4_ := f1_.symm; have f5_ := f3_.symm; clear f1_ f2_ f3_; subst f4_; subst f5_))
    refine hK.out _ _ ⟨(blk_cell BK261.out 0).trans rfl, (blk_cell BK261.out 1).trans rfl⟩ (fun hHeld => ?_)
    clear hK K
    refine norm_ (a' := ?_) ?_ ?_
    rotate_left
    ·show Act.put _ (some 28) _ = _
     simp only [Act.put, List.setIfInBounds_toArray, List.set_cons_zero, List.set_cons_succ, i64_w, i32_w]
     rfl
    refine pure_ (i := 10) (N := some 29) (v := ?_) (a' := ?_) #[true, true, true, true, true, true, true, true, true, true, true, false] rfl rfl (any_of HT_.out u17_) (fun _ _ _ h => h) (Or.inl ⟨u67_, ?_⟩) ?_ ?_
    rotate_left
    ·intro w'
     go_simp
     with_reducible rfl
    rotate_left
    ·simp only [Act.put, List.setIfInBounds_toArray, List.set_cons_zero, List.set_cons_succ, i64_w, i32_w]
     rfl
    refine last_ (i := 11) (N := none) #[true, true, true, true, true, true, true, true, true, true, true, true] rfl rfl (one_of HT_.out u17_) u39_ (fun K hK => ?_)
    have hs42 : w40.cell? ⟨gb261, 1, none⟩ = some (.slice Ao32 t257.length co32) := (blk_cell BK261.out 1).trans rfl
    have hfs42 := blk_frozen BK261.out 1
    have hns42_0 := NB255_261.out
    have hms42_0 := NB261_255.out
    refine skip_ (w1 := ?_) u67_ rfl ?_ ?_
    rotate_left
    ·go_simp
     rfl
    refine hK.out _ _ ?_
    clear hK K
    refine done_ (done_of HT_.out u17_) ?_
    have hcz43_0 : w40.cell? ⟨gb261, 0, none⟩ = some (.string t256) := (blk_cell BK261.out 0).trans rfl
    have hcz43_1 : w40.cell? ⟨gb261, 1, none⟩ = some (.slice Ao32 t257.length co32) := (blk_cell BK261.out 1).trans rfl
    have hfz43_0 := blk_frozen BK261.out 0
    have hfz43_1 := blk_frozen BK261.out 1
    have hnb44 := NB255_0.out
    have hnc44 := NB0_255.out
    have hcz45_0 : w40.cell? ⟨gb255, 0, none⟩ = some (.string (⟨#[]⟩ : ByteArray)) := (blk_cell BK255.out 0).trans rfl
    have hcz45_1 : w40.cell? ⟨gb255, 1, none⟩ = some (.slice none 0 0) := (blk_cell BK255.out 1).trans rfl
    have hfz45_0 := blk_frozen BK255.out 0
    have hfz45_1 := blk_frozen BK255.out 1
    try go_wp2
    refine bodyPost_ret (results_cell_row rfl _ _ gb255 37 #[.string t256, .slice Ao41 y276.length co41] (0, 0) _ rfl (by (with_reducible repeat (first | refine blk_drewN ?_ _ | refine blk_drew ?_ | refine blk_alloc ?_ _)); refine blk_put (cs := #[.string t256, .slice none 0 0]) ?_ 1 _ rfl; (with_reducible repeat (first | refine blk_drewN ?_ _ | refine blk_drew ?_ | refine blk_alloc ?_ _)); refine blk_put (cs := #[.string (⟨#[]⟩ : ByteArray), .slice none 0 0]) ?_ 0 _ rfl; (with_reducible repeat (first | refine blk_drewN ?_ _ | refine blk_drew ?_ | refine blk_alloc ?_ _)); refine blk_far ?_ NB255_261.out _; (with_reducible repeat (first | refine blk_drewN ?_ _ | refine blk_drew ?_ | refine blk_alloc ?_ _)); exact BK255.out) Tryd.underlying37 rfl u17_) rfl ?_
    exact ⟨_, u7_, by (with_reducible repeat (first | apply Kd.R_alloc | apply Kd.R_drewN | apply Kd.R_drew)); exact Kd.R_mono (Kd.R_far (p := ⟨gb255, 1, none⟩) (Kd.R_far (p := ⟨gb255, 0, none⟩) (Kd.R_far (p := ⟨gb261, 1, none⟩) (Kd.R_types (Kd.R_types HO278.out BK261.out u39_) BK255.out u39_) (fun _ hk => hk.1.2) (.slice Ao41 y276.length co41)) (fun _ hk => hk.2) (.string t256)) (fun _ hk => hk.2) (.slice Ao41 y276.length co41)) (fun _ hk => trivial), u30_, u26_, u8_⟩
   ·rw [if_neg c25] at H
    exact absurd H u89_
  ·rw [if_neg c22] at H
   have c22b0 : (t262 == 1) = false := beq_eq_false_iff_ne.mpr c22
   have c22b1 : (t262 != 1) = true := bne_iff_ne.mpr c22
   by_cases c46 : t262 = 2
   ·rw [if_pos c46] at H
    have c46b0 : (t262 == 2) = true := beq_iff_eq.mpr c46
    have c46b1 : (t262 != 2) = false := bne_eq_false_iff_eq.mpr c46
    clear c46
    by_cases c47 : (t257.length : Int) > 0
    ·rw [if_pos c47] at H
     have c47b0 : decide (0 < (t257.length : Int)) = true := decide_eq_true c47
     have c47b1 : decide (0 < t257.length) = true := decide_eq_true (by omega)
     clear c47
     replace H := Option.bind_eq_some_iff.mp H
     obtain ⟨⟨t279, t280⟩, A480, H⟩ := H
     replace H : ((spec_l1Rd_of.f k s0_0 t280 (([(⟨#[48, 49]⟩ : ByteArray), (⟨#[]⟩ : ByteArray), (⟨#[120, 44]⟩ : ByteArray), (⟨#[45, 48]⟩ : ByteArray), (⟨#[114, 101, 100, 44, 44, 98, 108, 117, 101]⟩ : ByteArray), (⟨#[97, 44, 98, 44, 99, 44, 100, 44, 101]⟩ : ByteArray), (⟨#[119, 111, 114, 100, 115, 32, 104, 101, 114, 101]⟩ : ByteArray)] : List ByteArray))).bind fun bt284 => (if 0 ≤ t279 then (if t279 < (t257.length : Int) then (some (t256, (t257.set (t279 : Int).toNat (⟨(rd_T74 t257 t279).f0, bt284.1⟩ : S74)), bt284.2)) else (none)) else (none))) = some (r1, r2, r3) := H
     have A48 := Aside0.mk A480
     clear A480
     obtain ⟨y281, hy281⟩ : ∃ y_ : List ByteArray, y_ = (([(⟨#[48, 49]⟩ : ByteArray), (⟨#[]⟩ : ByteArray), (⟨#[120, 44]⟩ : ByteArray), (⟨#[45, 48]⟩ : ByteArray), (⟨#[114, 101, 100, 44, 44, 98, 108, 117, 101]⟩ : ByteArray), (⟨#[97, 44, 98, 44, 99, 44, 100, 44, 101]⟩ : ByteArray), (⟨#[119, 111, 114, 100, 115, 32, 104, 101, 114, 101]⟩ : ByteArray)] : List ByteArray)) := ⟨_, rfl⟩
     replace H : ((spec_l1Rd_of.f k s0_0 t280 y281).bind fun bt284 => (if 0 ≤ t279 then (if t279 < (t257.length : Int) then (some (t256, (t257.set (t279 : Int).toNat (⟨(rd_T74 t257 t279).f0, bt284.1⟩ : S74)), bt284.2)) else (none)) else (none))) = some (r1, r2, r3) := by first | (rw [hy281]; with_reducible exact H) | (have H2_ := (Option.bind_some _ _).symm.trans H; rw [hy281]; with_reducible exact H2_) | (have H2_ := (Option.bind_some _ _).symm.trans H; with_reducible exact H2_) | with_reducible exact H | (rw [hy281]; exact H) | exact H
     have Ny281 := Aside0.mk hy281
     clear hy281
     replace H := Option.bind_eq_some_iff.mp H
     obtain ⟨⟨t284, t285⟩, A490, H⟩ := H
     replace H : (if 0 ≤ t279 then (if t279 < (t257.length : Int) then (some (t256, (t257.set (t279 : Int).toNat (⟨(rd_T74 t257 t279).f0, t284⟩ : S74)), t285)) else (none)) else (none)) = some (r1, r2, r3) := H
     have A49 := Aside0.mk A490
     clear A490
     by_cases c50 : 0 ≤ t279
     ·rw [if_pos c50] at H
      have c50b0 : decide (0 ≤ t279) = true := decide_eq_true c50
      clear c50
      by_cases c51 : t279 < (t257.length : Int)
      ·rw [if_pos c51] at H
       have c51b0 : decide (t279 < (t257.length : Int)) = true := decide_eq_true c51
       clear c51
       obtain ⟨y286, hy286⟩ : ∃ y_ : List (S74), y_ = (t257.set (t279 : Int).toNat (⟨(rd_T74 t257 t279).f0, t284⟩ : S74)) := ⟨_, rfl⟩
       replace H : (some (t256, y286, t285)) = some (r1, r2, r3) := by first | (rw [hy286]; with_reducible exact H) | (have H2_ := (Option.bind_some _ _).symm.trans H; rw [hy286]; with_reducible exact H2_) | (have H2_ := (Option.bind_some _ _).symm.trans H; with_reducible exact H2_) | with_reducible exact H | (rw [hy286]; exact H) | exact H
       have Ny286 := Aside0.mk hy286
       clear hy286
       simp only [Option.some.injEq, Prod.mk.injEq] at H
       obtain ⟨rfl, rfl, rfl⟩ := H
       go_enter Tryd.func62, Tryd.ntmps62
       try go_wp2_with (first | ((with_reducible refine gate_dst (N := 4) rfl ?_); refine box_event ?hg (N := 4) ?hd (cs := #[.string (⟨#[]⟩ : ByteArray), .slice none 0 0]) (t := 37) ?hr ?_; (case hd => rfl); (case hg => rfl); (case hr => first | (go_simp; done) | (go_simp; rfl)); intro gb255 hg w53 hbox hb; have n0_ := Aside0.mk (IsS106.below u19_ hb); have n1_ := Aside0.mk (KeepBut.trans u2_ (KeepBut.of_below hb g none) (.inl rfl)); have n2_ := Aside0.mk (below_step u14_ hb); have n3_ := Aside0.mk (hbox); have n4_ := Aside0.mk ((by rw [hg]; exact (keep_size (w := w) (g := g) (row := none) u2_) : w.heap.size ≤ gb255)); have n5_ := Aside0.mk ((Nat.le_trans HW0.out (by rw [hg]; exact (keep_size (w := w) (g := g) (row := none) u2_) : w.heap.size ≤ gb255) : w0.heap.size ≤ gb255)); have n6_ := Aside0.mk ((by rw [hg]; exact Nat.ne_of_lt (IsS106.lt (show IsS106 w0 _ g s0_0 s0_1 from by repeat (first | (with_reducible first | exact HI0.out | apply IsS106.alloc | apply IsS106.drewN | apply IsS106.drew | apply IsS106.set_1) | exact HI0.out))) : g ≠ gb255)); have n7_ := Aside0.mk ((by rw [hg]; exact Nat.ne_of_gt (IsS106.lt (show IsS106 w0 _ g s0_0 s0_1 from by repeat (first | (with_reducible first | exact HI0.out | apply IsS106.alloc | apply IsS106.drewN | apply IsS106.drew | apply IsS106.set_1) | exact HI0.out))) : gb255 ≠ g)); clear HI0; clear HK; clear HB; have HI0 := n0_; have HK := n1_; have HB := n2_; have BK255 := n3_; have GW255 := n4_; have GE255 := n5_; have NB0_255 := n6_; have NB255_0 := n7_; clear n0_ n1_ n2_ n3_ n4_ n5_ n6_ n7_; clear hb hbox hg) | ((with_reducible refine gate_callee (f := 65) rfl ?_); refine goesL_ (some 8) rfl rfl Tryd.func65 u17_ rfl #[.pointer (some ⟨g, 0, none⟩), .slice A1 l1.length c1] rfl u0_ ?_; (with_reducible refine (spec_l11Doc.calls k g s0_0 s0_1 _ _ l1 t256 t257 t260 w0 _ ?side1 ?side2 ?side3 ?side4 A3.out).mono ?_); (case side1 => repeat (first | (with_reducible first | exact HI0.out | apply IsS106.alloc | apply IsS106.drewN | apply IsS106.drew | apply IsS106.set_1 | refine IsS106.far ?_ NB0_255.out _) | exact HI0.out)); (case side2 => repeat (first | (with_reducible first | exact HB.out | apply below_alloc | apply pw_below_drewN | apply below_drew1 | refine below_set ?_ (IsS106.ge HI0.out) | refine below_set ?_ GE255.out) | exact HB.out)); (case side3 => exact Kd.C_foot_step HR1.out u11_); (case side4 => exact HC1.out); rintro e w54 ⟨v258, rfl, ho0, hi, hb, hk⟩; refine ⟨_, rfl, ?_⟩; have n0_ := Aside0.mk (KeepBut.blk hk (g' := gb255) (o := .cells #[.string (⟨#[]⟩ : ByteArray), .slice none 0 0] 37 (0, 0)) u20_ NB255_0.out u89_); have n1_ := Aside0.mk (Kd.R_lower ho0 (keep_size (w := w) (g := g) (row := none) u11_)); have n2_ := Aside0.mk (KeepBut.trans u11_ hk (.inl rfl)); have n3_ := Aside0.mk (hb); have n4_ := Aside0.mk (hi); clear BK255; clear HK; clear HB; clear HI0; have BK255 := n0_; have HO259 := n1_; have HK := n2_; have HB := n3_; have HI0 := n4_; clear n0_ n1_ n2_ n3_ n4_; (try clear hb); (try clear hb2); (try clear hk); (try clear hi); (try clear ho0)) | ((with_reducible refine gate_dst (N := 5) rfl ?_); refine box_event ?hg (N := 5) ?hd (cs := #[.string (⟨#[]⟩ : ByteArray), .slice none 0 0]) (t := 37) ?hr ?_; (case hd => rfl); (case hg => rfl); (case hr => first | (go_simp; done) | (go_simp; rfl)); intro gb261 hg w55 hbox hb; have n0_ := Aside0.mk (Kd.R_below u36_ hb); have n1_ := Aside0.mk (IsS106.below u80_ hb); have n2_ := Aside0.mk (blk_below (g := gb255) (o := .cells #[.string (⟨#[]⟩ : ByteArray), .slice none 0 0] 37 (0, 0)) u20_ hb); have n3_ := Aside0.mk (KeepBut.trans u11_ (KeepBut.of_below hb g none) (.inl rfl)); have n4_ := Aside0.mk (below_step u71_ hb); have n5_ := Aside0.mk (hbox); have n6_ := Aside0.mk ((by rw [hg]; exact (keep_size (w := w) (g := g) (row := none) u11_) : w.heap.size ≤ gb261)); have n7_ := Aside0.mk ((Nat.le_trans HW0.out (by rw [hg]; exact (keep_size (w := w) (g := g) (row := none) u11_) : w.heap.size ≤ gb261) : w0.heap.size ≤ gb261)); have n8_ := Aside0.mk ((by rw [hg]; exact Nat.ne_of_lt (blk_lt (g := gb255) (o := .cells #[.string (⟨#[]⟩ : ByteArray), .slice none 0 0] 37 (0, 0)) u20_) : gb255 ≠ gb261)); have n9_ := Aside0.mk ((by rw [hg]; exact Nat.ne_of_gt (blk_lt (g := gb255) (o := .cells #[.string (⟨#[]⟩ : ByteArray), .slice none 0 0] 37 (0, 0)) u20_) : gb261 ≠ gb255)); have n10_ := Aside0.mk ((by rw [hg]; exact Nat.ne_of_lt (IsS106.lt (show IsS106 w0 _ g s0_0 t260 from by repeat (first | (with_reducible first | exact HI0.out | apply IsS106.alloc | apply IsS106.drewN | apply IsS106.drew | apply IsS106.set_1 | refine IsS106.far ?_ NB0_255.out _) | exact HI0.out))) : g ≠ gb261)); have n11_ := Aside0.mk ((by rw [hg]; exact Nat.ne_of_gt (IsS106.lt (show IsS106 w0 _ g s0_0 t260 from by repeat (first | (with_reducible first | exact HI0.out | apply IsS106.alloc | apply IsS106.drewN | apply IsS106.drew | apply IsS106.set_1 | refine IsS106.far ?_ NB0_255.out _) | exact HI0.out))) : gb261 ≠ g)); clear HO259; clear HI0; clear BK255; clear HK; clear HB; have HO259 := n0_; have HI0 := n1_; have BK255 := n2_; have HK := n3_; have HB := n4_; have BK261 := n5_; have GW261 := n6_; have GE261 := n7_; have NB255_261 := n8_; have NB261_255 := n9_; have NB0_261 := n10_; have NB261_0 := n11_; clear n0_ n1_ n2_ n3_ n4_ n5_ n6_ n7_ n8_ n9_ n10_ n11_; clear hb hbox hg; have hnb56 := NB261_255.out; have hnc56 := NB255_261.out; have hnb57 := NB261_0.out; have hnc57 := NB0_261.out; have hcz58_0 : w55.cell? ⟨gb261, 0, none⟩ = some (.string (⟨#[]⟩ : ByteArray)) := (blk_cell BK261.out 0).trans rfl; have hcz58_1 : w55.cell? ⟨gb261, 1, none⟩ = some (.slice none 0 0) := (blk_cell BK261.out 1).trans rfl; have hfz58_0 := blk_frozen BK261.out 0; have hfz58_1 := blk_frozen BK261.out 1; obtain ⟨Ao59, co59, eo59⟩ := Kd.R_slice HO259.out; subst eo59) | ((with_reducible refine gate_callee (f := 77) rfl ?_); refine goesL_ (some 10) rfl rfl Tryd.func77 u17_ rfl #[.pointer (some ⟨g, 0, none⟩), .int .i64 14] rfl u0_ ?_; (with_reducible refine (spec_l1Rd_pick.calls k g s0_0 t260 14 t262 t263 w0 _ ?side1 ?side2 A4.out).mono ?_); (case side1 => repeat (first | (with_reducible first | exact HI0.out | apply IsS106.alloc | apply IsS106.drewN | apply IsS106.drew | apply IsS106.set_1 | refine IsS106.far ?_ NB0_255.out _ | refine IsS106.far ?_ NB0_261.out _) | exact HI0.out)); (case side2 => repeat (first | (with_reducible first | exact HB.out | apply below_alloc | apply pw_below_drewN | apply below_drew1 | refine below_set ?_ (IsS106.ge HI0.out) | refine below_set ?_ GE255.out | refine below_set ?_ GE261.out) | exact HB.out)); rintro e w60 ⟨rfl, hi, hb, hk⟩; refine ⟨_, rfl, ?_⟩; have n0_ := Aside0.mk (KeepBut.blk hk (g' := gb255) (o := .cells #[.string (⟨#[]⟩ : ByteArray), .slice none 0 0] 37 (0, 0)) u41_ NB255_0.out u89_); have n1_ := Aside0.mk (Kd.R_mono (Kd.R_keep (IsS106.apart (show IsS106 w0 _ g s0_0 t260 from by repeat (first | (with_reducible first | exact HI0.out | apply IsS106.alloc | apply IsS106.drewN | apply IsS106.drew | apply IsS106.set_1 | refine IsS106.far ?_ NB0_255.out _ | refine IsS106.far ?_ NB0_261.out _) | exact HI0.out)) (by (with_reducible repeat (first | apply Kd.R_alloc | apply Kd.R_drewN | apply Kd.R_drew)); exact (Kd.R_mono (Kd.R_far (p := ⟨gb261, 1, none⟩) (Kd.R_far (p := ⟨gb261, 0, none⟩) (Kd.R_types HO259.out BK261.out u39_) (fun _ hk => hk.2) (.string t256)) (fun _ hk => hk.2) (.slice Ao59 t257.length co59)) (fun _ h_ => h_.1))) u39_) hk (fun _ h => h.2)) (fun _ h => h.1)); have n2_ := Aside0.mk (KeepBut.blk hk (g' := gb261) (o := .cells #[.string t256, .slice Ao59 t257.length co59] 37 (0, 0)) u34_ NB261_0.out u89_); have n3_ := Aside0.mk (KeepBut.trans u8_ hk (.inl rfl)); have n4_ := Aside0.mk (hb); have n5_ := Aside0.mk (hi); clear BK255; clear HO259; clear BK261; clear HK; clear HB; clear HI0; have BK255 := n0_; have HO259 := n1_; have BK261 := n2_; have HK := n3_; have HB := n4_; have HI0 := n5_; clear n0_ n1_ n2_ n3_ n4_ n5_; (try clear hb); (try clear hb2); (try clear hk); (try clear hi); have hcz61_0 : w60.cell? ⟨gb261, 0, none⟩ = some (.string t256) := (blk_cell BK261.out 0).trans rfl; have hcz61_1 : w60.cell? ⟨gb261, 1, none⟩ = some (.slice Ao59 t257.length co59) := (blk_cell BK261.out 1).trans rfl; have hfz61_0 := blk_frozen BK261.out 0; have hfz61_1 := blk_frozen BK261.out 1))
       have n0_ := Aside0.mk (Kd.R_drew HO259.out)
       have n1_ := Aside0.mk (blk_drew BK255.out)
       have n2_ := Aside0.mk (blk_drew BK261.out)
       have n3_ := Aside0.mk (IsS106.drew HI0.out)
       have n4_ := Aside0.mk (keep_drew HK.out)
       have n5_ := Aside0.mk (below_drew1 HB.out)
       clear HO259
       clear BK255
       clear BK261
       clear HI0
       clear HK
       clear HB
       have HO259 := n0_
       have BK255 := n1_
       have BK261 := n2_
       have HI0 := n3_
       have HK := n4_
       have HB := n5_
       clear n0_ n1_ n2_ n3_ n4_ n5_
       refine start_ (n := 13) (S := fun w' => w'.cell? ⟨gb261, 0, none⟩ = some (.string t256) ∧ w'.cell? ⟨gb261, 1, none⟩ = some (.slice Ao59 t257.length co59)) (ds := [12]) #[false, false, false, false, false, false, false, false, false, false, false, false, false] u17_ rfl rfl ⟨(blk_cell BK261.out 0).trans rfl, (blk_cell BK261.out 1).trans rfl⟩ (fun hHeld => ?_); refine with_tabW spec_l11AnyDoc.tab9 spec_l11AnyDoc.bits9 (fun HT_ HW_ => ?_)
       generalize w60.drew = w62 at HO259 BK255 BK261 HI0 HK HB hHeld ⊢
       refine pure_ (i := 0) (N := some 36) (v := ?_) (a' := ?_) #[true, false, false, false, false, false, false, false, false, false, false, false, false] rfl rfl (any_of HT_.out u17_) (fun _ _ _ h => h) (Or.inl ⟨u67_, ?_⟩) ?_ ?_
       rotate_left
       ·intro w'
        go_simp
        with_reducible rfl
       rotate_left
       ·simp only [Act.put, List.setIfInBounds_toArray, List.set_cons_zero, List.set_cons_succ, i64_w, i32_w]
        rfl
       refine pure_ (i := 2) (N := some 38) (v := ?_) (a' := ?_) #[true, false, true, false, false, false, false, false, false, false, false, false, false] rfl rfl (any_of HT_.out u17_) (fun _ _ _ h => h) (Or.inl ⟨u67_, ?_⟩) ?_ ?_
       rotate_left
       ·intro w'
        go_simp
        with_reducible rfl
       rotate_left
       ·simp only [Act.put, List.setIfInBounds_toArray, List.set_cons_zero, List.set_cons_succ, i64_w, i32_w]
        rfl
       refine pure_ (i := 3) (N := some 39) (v := ?_) (a' := ?_) #[true, false, true, true, false, false, false, false, false, false, false, false, false] rfl rfl (any_of HT_.out u17_) (fun _ _ _ h => h) (Or.inl ⟨u67_, ?_⟩) ?_ ?_
       rotate_left
       ·intro w'
        go_simp
        with_reducible rfl
       rotate_left
       ·simp only [Act.put, List.setIfInBounds_toArray, List.set_cons_zero, List.set_cons_succ, i64_w, i32_w]
        rfl
       refine pure_ (i := 7) (N := some 43) (v := ?_) (a' := ?_) #[true, false, true, true, false, false, false, true, false, false, false, false, false] rfl rfl (any_of HT_.out u17_) (fun _ _ _ h => h) (Or.inl ⟨u67_, ?_⟩) ?_ ?_
       rotate_left
       ·intro w'
        go_simp
        with_reducible rfl
       rotate_left
       ·simp only [Act.put, List.setIfInBounds_toArray, List.set_cons_zero, List.set_cons_succ, i64_w, i32_w]
        rfl
       refine take_ (i := 1) (N := some 37) (v := ?_) (a' := ?_) #[true, true, true, true, false, false, false, true, false, false, false, false, false] rfl rfl (take_ofW HT_.out HW_.out u17_) (fun _ _ _ h => h) (Or.inl ⟨u67_, ?_⟩) hHeld ?_ ?_
       rotate_left
       ·rintro w' ⟨s0, s1⟩
        go_simp
        with_reducible rfl
       rotate_left
       ·simp only [Act.put, List.setIfInBounds_toArray, List.set_cons_zero, List.set_cons_succ, i64_w, i32_w]
        rfl
       refine take_ (i := 4) (N := some 40) (v := ?_) (a' := ?_) #[true, true, true, true, true, false, false, true, false, false, false, false, false] rfl rfl (take_ofW HT_.out HW_.out u17_) (fun _ _ _ h => h) (Or.inl ⟨u67_, ?_⟩) hHeld ?_ ?_
       rotate_left
       ·rintro w' ⟨s0, s1⟩
        go_simp
        with_reducible rfl
       rotate_left
       ·simp only [Act.put, List.setIfInBounds_toArray, List.set_cons_zero, List.set_cons_succ, i64_w, i32_w]
        rfl
       refine pure_ (i := 5) (N := some 41) (v := ?_) (a' := ?_) #[true, true, true, true, true, true, false, true, false, false, false, false, false] rfl rfl (any_of HT_.out u17_) (fun _ _ _ h => h) (Or.inl ⟨u67_, ?_⟩) ?_ ?_
       rotate_left
       ·intro w'
        go_simp
        with_reducible rfl
       rotate_left
       ·simp only [Act.put, List.setIfInBounds_toArray, List.set_cons_zero, List.set_cons_succ, i64_w, i32_w]
        rfl
       refine join_ (σ := Value) 4 #[true, true, true, true, true, true, true, true, true, false, false, false, false] (fun s_ => [(42, .int .i64 t279), (44, s_)]) (fun s_ w' => (w'.cell? ⟨gb261, 0, none⟩ = some (.string t256) ∧ w'.cell? ⟨gb261, 1, none⟩ = some (.slice Ao59 t257.length co59)) ∧ (Kd.R k74 74 w' w.heap.size (fun _ => True) (.slice Ao59 t257.length co59) t257) ∧ (Kd.R Kd.string 9 w' w.heap.size (fun _ => True) s_ y281) ∧ (w'.heap[gb255]? = some (.cells #[.string (⟨#[]⟩ : ByteArray), .slice none 0 0] 37 (0, 0))) ∧ (w'.heap[gb261]? = some (.cells #[.string t256, .slice Ao59 t257.length co59] 37 (0, 0))) ∧ (IsS106 w0 w' g s0_0 t280) ∧ (KeepBut w w' g none) ∧ (Below w0.heap.size w0 w')) ?_ ?_
       rotate_left
       ·intro hCont
        refine two_ (i := 6) (j := 8) (Ni := some 42) (Nj := some 44) #[true, true, true, true, true, true, true, true, false, false, false, false, false] #[true, true, true, true, true, true, false, true, true, false, false, false, false] rfl rfl rfl rfl (two_of HT_.out u17_) u39_ u39_ (fun K hK => ?_) (fun K hK => ?_)
        ·skip
         refine goes_ Tryd.func77 u17_ rfl #[.pointer (some ⟨g, 0, none⟩), .int .i64 (t257.length : Int)] u67_ rfl rfl u0_ ?_
         with_reducible refine (spec_l1Rd_pick.calls k g s0_0 t263 (t257.length : Int) t279 t280 w0 _ ?side1 ?side2 A48.out).mono ?_
         (case side1 => repeat (first | (with_reducible first | exact HI0.out | apply IsS106.alloc | apply IsS106.drewN | apply IsS106.drew | apply IsS106.set_1 | refine IsS106.far ?_ NB0_255.out _ | refine IsS106.far ?_ NB0_261.out _) | exact HI0.out))
         (case side2 => repeat (first | (with_reducible first | exact HB.out | apply below_alloc | apply pw_below_drewN | apply below_drew1 | refine below_set ?_ (IsS106.ge HI0.out) | refine below_set ?_ GE255.out | refine below_set ?_ GE261.out) | exact HB.out))
         rintro e w63 ⟨rfl, hi, hb, hk⟩
         refine ⟨_, rfl, ?_⟩
         have n0_ := Aside0.mk (KeepBut.blk hk (g' := gb255) (o := .cells #[.string (⟨#[]⟩ : ByteArray), .slice none 0 0] 37 (0, 0)) u20_ NB255_0.out u89_)
         have n1_ := Aside0.mk (Kd.R_mono (Kd.R_keep (IsS106.apart (show IsS106 w0 _ g s0_0 t263 from by repeat (first | (with_reducible first | exact HI0.out | apply IsS106.alloc | apply IsS106.drewN | apply IsS106.drew | apply IsS106.set_1 | refine IsS106.far ?_ NB0_255.out _ | refine IsS106.far ?_ NB0_261.out _) | exact HI0.out)) u36_ u39_) hk (fun _ h => h.2)) (fun _ h => h.1))
         have n2_ := Aside0.mk (KeepBut.blk hk (g' := gb261) (o := .cells #[.string t256, .slice Ao59 t257.length co59] 37 (0, 0)) u45_ NB261_0.out u89_)
         have n3_ := Aside0.mk (KeepBut.trans u8_ hk (.inl rfl))
         have n4_ := Aside0.mk (hb)
         have n5_ := Aside0.mk (hi)
         clear BK255
         clear HO259
         clear BK261
         clear HK
         clear HB
         clear HI0
         have BK255 := n0_
         have HO259 := n1_
         have BK261 := n2_
         have HK := n3_
         have HB := n4_
         have HI0 := n5_
         clear n0_ n1_ n2_ n3_ n4_ n5_
         (try clear hb)
         (try clear hb2)
         (try clear hk)
         (try clear hi)
         refine hK.out _ _ ⟨(blk_cell BK261.out 0).trans rfl, (blk_cell BK261.out 1).trans rfl⟩ (fun hHeld => ?_)
         clear hK K
         refine norm_ (a' := ?_) ?_ ?_
         rotate_left
         ·show Act.put _ (some 42) _ = _
          simp only [Act.put, List.setIfInBounds_toArray, List.set_cons_zero, List.set_cons_succ, i64_w, i32_w]
          rfl
         refine one_ (i := 8) (N := some 44) #[true, true, true, true, true, true, true, true, true, false, false, false, false] rfl rfl (one_of HT_.out u17_) u39_ (fun K hK => ?_)
         refine Kd.R_lit_step Kd.string _ 9 ?hg (N := 44) ?hd (xs := ([(⟨#[48, 49]⟩ : ByteArray), (⟨#[]⟩ : ByteArray), (⟨#[120, 44]⟩ : ByteArray), (⟨#[45, 48]⟩ : ByteArray), (⟨#[114, 101, 100, 44, 44, 98, 108, 117, 101]⟩ : ByteArray), (⟨#[97, 44, 98, 44, 99, 44, 100, 44, 101]⟩ : ByteArray), (⟨#[119, 111, 114, 100, 115, 32, 104, 101, 114, 101]⟩ : ByteArray)] : List ByteArray)) (inner := [.string (⟨#[48, 49]⟩ : ByteArray), .string (⟨#[]⟩ : ByteArray), .string (⟨#[120, 44]⟩ : ByteArray), .string (⟨#[45, 48]⟩ : ByteArray), .string (⟨#[114, 101, 100, 44, 44, 98, 108, 117, 101]⟩ : ByteArray), .string (⟨#[97, 44, 98, 44, 99, 44, 100, 44, 101]⟩ : ByteArray), .string (⟨#[119, 111, 114, 100, 115, 32, 104, 101, 114, 101]⟩ : ByteArray)]) (ok := fun _ => True) (okp := fun _ => True) ?hr ?hp (fun _ hk => hk) trivial (Below.refl _ _) (Nat.le_refl _) u89_ ?_; (case hd => rfl); (case hg => rfl); (case hr => first | (go_simp; done) | (go_simp; rfl)); (case hp => exact (Reps.one (show Kd.M Kd.string _ _ _ (⟨#[48, 49]⟩ : ByteArray) [.string (⟨#[48, 49]⟩ : ByteArray)] from rfl) (Reps.one (show Kd.M Kd.string _ _ _ (⟨#[]⟩ : ByteArray) [.string (⟨#[]⟩ : ByteArray)] from rfl) (Reps.one (show Kd.M Kd.string _ _ _ (⟨#[120, 44]⟩ : ByteArray) [.string (⟨#[120, 44]⟩ : ByteArray)] from rfl) (Reps.one (show Kd.M Kd.string _ _ _ (⟨#[45, 48]⟩ : ByteArray) [.string (⟨#[45, 48]⟩ : ByteArray)] from rfl) (Reps.one (show Kd.M Kd.string _ _ _ (⟨#[114, 101, 100, 44, 44, 98, 108, 117, 101]⟩ : ByteArray) [.string (⟨#[114, 101, 100, 44, 44, 98, 108, 117, 101]⟩ : ByteArray)] from rfl) (Reps.one (show Kd.M Kd.string _ _ _ (⟨#[97, 44, 98, 44, 99, 44, 100, 44, 101]⟩ : ByteArray) [.string (⟨#[97, 44, 98, 44, 99, 44, 100, 44, 101]⟩ : ByteArray)] from rfl) (Reps.one (show Kd.M Kd.string _ _ _ (⟨#[119, 111, 114, 100, 115, 32, 104, 101, 114, 101]⟩ : ByteArray) [.string (⟨#[119, 111, 114, 100, 115, 32, 104, 101, 114, 101]⟩ : ByteArray)] from rfl) (Reps.none _ _)))))))))
         intro v282 w64 ho65 hb hg_ hnew_
         clear hg_ hnew_
         (first | rw [← Ny281.out] at ho65 | (simp only [Int.reduceToNat] at ho65; rw [← Ny281.out] at ho65))
         have n0_ := Aside0.mk (Kd.R_below u36_ hb)
         have n1_ := Aside0.mk (Kd.R_lower ho65 (keep_size (w := w) (g := g) (row := none) u8_))
         have n2_ := Aside0.mk (IsS106.below u30_ hb)
         have n3_ := Aside0.mk (blk_below (g := gb255) (o := .cells #[.string (⟨#[]⟩ : ByteArray), .slice none 0 0] 37 (0, 0)) u20_ hb)
         have n4_ := Aside0.mk (blk_below (g := gb261) (o := .cells #[.string t256, .slice Ao59 t257.length co59] 37 (0, 0)) u45_ hb)
         have n5_ := Aside0.mk (KeepBut.trans u8_ (KeepBut.of_below hb g none) (.inl rfl))
         have n6_ := Aside0.mk (below_step u26_ hb)
         clear HO259
         clear HI0
         clear BK255
         clear BK261
         clear HK
         clear HB
         have HO259 := n0_
         have HO283 := n1_
         have HI0 := n2_
         have BK255 := n3_
         have BK261 := n4_
         have HK := n5_
         have HB := n6_
         clear n0_ n1_ n2_ n3_ n4_ n5_ n6_
         clear hb ho65
         refine hK.out _ _ ⟨(blk_cell BK261.out 0).trans rfl, (blk_cell BK261.out 1).trans rfl⟩ (fun hHeld => ?_)
         clear hK K
         refine norm_ (a' := ?_) ?_ ?_
         rotate_left
         ·show Act.put _ (some 44) _ = _
          simp only [Act.put, List.setIfInBounds_toArray, List.set_cons_zero, List.set_cons_succ, i64_w, i32_w]
          rfl
         exact norm_ u84_ (hCont (v282) _ ⟨hHeld, u36_, u106_, u20_, u45_, u30_, u8_, u26_⟩)
        ·skip
         refine Kd.R_lit_step Kd.string _ 9 ?hg (N := 44) ?hd (xs := ([(⟨#[48, 49]⟩ : ByteArray), (⟨#[]⟩ : ByteArray), (⟨#[120, 44]⟩ : ByteArray), (⟨#[45, 48]⟩ : ByteArray), (⟨#[114, 101, 100, 44, 44, 98, 108, 117, 101]⟩ : ByteArray), (⟨#[97, 44, 98, 44, 99, 44, 100, 44, 101]⟩ : ByteArray), (⟨#[119, 111, 114, 100, 115, 32, 104, 101, 114, 101]⟩ : ByteArray)] : List ByteArray)) (inner := [.string (⟨#[48, 49]⟩ : ByteArray), .string (⟨#[]⟩ : ByteArray), .string (⟨#[120, 44]⟩ : ByteArray), .string (⟨#[45, 48]⟩ : ByteArray), .string (⟨#[114, 101, 100, 44, 44, 98, 108, 117, 101]⟩ : ByteArray), .string (⟨#[97, 44, 98, 44, 99, 44, 100, 44, 101]⟩ : ByteArray), .string (⟨#[119, 111, 114, 100, 115, 32, 104, 101, 114, 101]⟩ : ByteArray)]) (ok := fun _ => True) (okp := fun _ => True) ?hr ?hp (fun _ hk => hk) trivial (Below.refl _ _) (Nat.le_refl _) u89_ ?_; (case hd => rfl); (case hg => rfl); (case hr => first | (go_simp; done) | (go_simp; rfl)); (case hp => exact (Reps.one (show Kd.M Kd.string _ _ _ (⟨#[48, 49]⟩ : ByteArray) [.string (⟨#[48, 49]⟩ : ByteArray)] from rfl) (Reps.one (show Kd.M Kd.string _ _ _ (⟨#[]⟩ : ByteArray) [.string (⟨#[]⟩ : ByteArray)] from rfl) (Reps.one (show Kd.M Kd.string _ _ _ (⟨#[120, 44]⟩ : ByteArray) [.string (⟨#[120, 44]⟩ : ByteArray)] from rfl) (Reps.one (show Kd.M Kd.string _ _ _ (⟨#[45, 48]⟩ : ByteArray) [.string (⟨#[45, 48]⟩ : ByteArray)] from rfl) (Reps.one (show Kd.M Kd.string _ _ _ (⟨#[114, 101, 100, 44, 44, 98, 108, 117, 101]⟩ : ByteArray) [.string (⟨#[114, 101, 100, 44, 44, 98, 108, 117, 101]⟩ : ByteArray)] from rfl) (Reps.one (show Kd.M Kd.string _ _ _ (⟨#[97, 44, 98, 44, 99, 44, 100, 44, 101]⟩ : ByteArray) [.string (⟨#[97, 44, 98, 44, 99, 44, 100, 44, 101]⟩ : ByteArray)] from rfl) (Reps.one (show Kd.M Kd.string _ _ _ (⟨#[119, 111, 114, 100, 115, 32, 104, 101, 114, 101]⟩ : ByteArray) [.string (⟨#[119, 111, 114, 100, 115, 32, 104, 101, 114, 101]⟩ : ByteArray)] from rfl) (Reps.none _ _)))))))))
         intro v282 w63 ho64 hb hg_ hnew_
         clear hg_ hnew_
         (first | rw [← Ny281.out] at ho64 | (simp only [Int.reduceToNat] at ho64; rw [← Ny281.out] at ho64))
         have n0_ := Aside0.mk (Kd.R_below u36_ hb)
         have n1_ := Aside0.mk (Kd.R_lower ho64 (keep_size (w := w) (g := g) (row := none) u8_))
         have n2_ := Aside0.mk (IsS106.below u30_ hb)
         have n3_ := Aside0.mk (blk_below (g := gb255) (o := .cells #[.string (⟨#[]⟩ : ByteArray), .slice none 0 0] 37 (0, 0)) u20_ hb)
         have n4_ := Aside0.mk (blk_below (g := gb261) (o := .cells #[.string t256, .slice Ao59 t257.length co59] 37 (0, 0)) u45_ hb)
         have n5_ := Aside0.mk (KeepBut.trans u8_ (KeepBut.of_below hb g none) (.inl rfl))
         have n6_ := Aside0.mk (below_step u26_ hb)
         clear HO259
         clear HI0
         clear BK255
         clear BK261
         clear HK
         clear HB
         have HO259 := n0_
         have HO283 := n1_
         have HI0 := n2_
         have BK255 := n3_
         have BK261 := n4_
         have HK := n5_
         have HB := n6_
         clear n0_ n1_ n2_ n3_ n4_ n5_ n6_
         clear hb ho64
         refine hK.out _ _ ⟨(blk_cell BK261.out 0).trans rfl, (blk_cell BK261.out 1).trans rfl⟩ (fun hHeld => ?_)
         clear hK K
         refine norm_ (a' := ?_) ?_ ?_
         rotate_left
         ·show Act.put _ (some 44) _ = _
          simp only [Act.put, List.setIfInBounds_toArray, List.set_cons_zero, List.set_cons_succ, i64_w, i32_w]
          rfl
         refine one_ (i := 6) (N := some 42) #[true, true, true, true, true, true, true, true, true, false, false, false, false] rfl rfl (one_of HT_.out u17_) u39_ (fun K hK => ?_)
         refine goes_ Tryd.func77 u17_ rfl #[.pointer (some ⟨g, 0, none⟩), .int .i64 (t257.length : Int)] u67_ rfl rfl u0_ ?_
         with_reducible refine (spec_l1Rd_pick.calls k g s0_0 t263 (t257.length : Int) t279 t280 w0 _ ?side1 ?side2 A48.out).mono ?_
         (case side1 => repeat (first | (with_reducible first | exact HI0.out | apply IsS106.alloc | apply IsS106.drewN | apply IsS106.drew | apply IsS106.set_1 | refine IsS106.far ?_ NB0_255.out _ | refine IsS106.far ?_ NB0_261.out _) | exact HI0.out))
         (case side2 => repeat (first | (with_reducible first | exact HB.out | apply below_alloc | apply pw_below_drewN | apply below_drew1 | refine below_set ?_ (IsS106.ge HI0.out) | refine below_set ?_ GE255.out | refine below_set ?_ GE261.out) | exact HB.out))
         rintro e w65 ⟨rfl, hi, hb, hk⟩
         refine ⟨_, rfl, ?_⟩
         have n0_ := Aside0.mk (KeepBut.blk hk (g' := gb255) (o := .cells #[.string (⟨#[]⟩ : ByteArray), .slice none 0 0] 37 (0, 0)) u20_ NB255_0.out u89_)
         have n1_ := Aside0.mk (Kd.R_mono (Kd.R_keep (IsS106.apart (show IsS106 w0 _ g s0_0 t263 from by repeat (first | (with_reducible first | exact HI0.out | apply IsS106.alloc | apply IsS106.drewN | apply IsS106.drew | apply IsS106.set_1 | refine IsS106.far ?_ NB0_255.out _ | refine IsS106.far ?_ NB0_261.out _) | exact HI0.out)) u36_ u39_) hk (fun _ h => h.2)) (fun _ h => h.1))
         have n2_ := Aside0.mk (KeepBut.blk hk (g' := gb261) (o := .cells #[.string t256, .slice Ao59 t257.length co59] 37 (0, 0)) u45_ NB261_0.out u89_)
         have n3_ := Aside0.mk (Kd.R_mono (Kd.R_keep (IsS106.apart (show IsS106 w0 _ g s0_0 t263 from by repeat (first | (with_reducible first | exact HI0.out | apply IsS106.alloc | apply IsS106.drewN | apply IsS106.drew | apply IsS106.set_1 | refine IsS106.far ?_ NB0_255.out _ | refine IsS106.far ?_ NB0_261.out _) | exact HI0.out)) u106_ u39_) hk (fun _ h => h.2)) (fun _ h => h.1))
         have n4_ := Aside0.mk (KeepBut.trans u8_ hk (.inl rfl))
         have n5_ := Aside0.mk (hb)
         have n6_ := Aside0.mk (hi)
         clear BK255
         clear HO259
         clear BK261
         clear HO283
         clear HK
         clear HB
         clear HI0
         have BK255 := n0_
         have HO259 := n1_
         have BK261 := n2_
         have HO283 := n3_
         have HK := n4_
         have HB := n5_
         have HI0 := n6_
         clear n0_ n1_ n2_ n3_ n4_ n5_ n6_
         (try clear hb)
         (try clear hb2)
         (try clear hk)
         (try clear hi)
         refine hK.out _ _ ⟨(blk_cell BK261.out 0).trans rfl, (blk_cell BK261.out 1).trans rfl⟩ (fun hHeld => ?_)
         clear hK K
         refine norm_ (a' := ?_) ?_ ?_
         rotate_left
         ·show Act.put _ (some 42) _ = _
          simp only [Act.put, List.setIfInBounds_toArray, List.set_cons_zero, List.set_cons_succ, i64_w, i32_w]
          rfl
         exact norm_ u84_ (hCont (v282) _ ⟨hHeld, u36_, u106_, u20_, u45_, u30_, u8_, u26_⟩)
       rintro v282 w66 ⟨hS_, h0_, h1_, h2_, h3_, h4_, h5_, h6_⟩
       have n0_ : Aside0 (Kd.R k74 74 w66 w.heap.size (fun _ => True) (.slice Ao59 t257.length co59) t257) := ⟨h0_⟩
       have n1_ : Aside0 (Kd.R Kd.string 9 w66 w.heap.size (fun _ => True) v282 y281) := ⟨h1_⟩
       have n2_ : Aside0 (w66.heap[gb255]? = some (.cells #[.string (⟨#[]⟩ : ByteArray), .slice none 0 0] 37 (0, 0))) := ⟨h2_⟩
       have n3_ : Aside0 (w66.heap[gb261]? = some (.cells #[.string t256, .slice Ao59 t257.length co59] 37 (0, 0))) := ⟨h3_⟩
       have n4_ : Aside0 (IsS106 w0 w66 g s0_0 t280) := ⟨h4_⟩
       have n5_ : Aside0 (KeepBut w w66 g none) := ⟨h5_⟩
       have n6_ : Aside0 (Below w0.heap.size w0 w66) := ⟨h6_⟩
       clear HO259
       clear BK255
       clear BK261
       clear HI0
       clear HK
       clear HB
       clear h0_ h1_ h2_ h3_ h4_ h5_ h6_
       have HO259 := n0_
       have HO283 := n1_
       have BK255 := n2_
       have BK261 := n3_
       have HI0 := n4_
       have HK := n5_
       have HB := n6_
       clear n0_ n1_ n2_ n3_ n4_ n5_ n6_
       have hHeld : w66.cell? ⟨gb261, 0, none⟩ = some (.string t256) ∧ w66.cell? ⟨gb261, 1, none⟩ = some (.slice Ao59 t257.length co59) := hS_
       obtain ⟨Ao67, co67, eo67⟩ := Kd.R_slice HO283.out
       (first | subst eo67 | (injection eo67 with f1_ f2_ f3_; have f4_ := f1_.symm; have f5_ := f3_.symm; clear f1_ f2_ f3_; subst f4_; subst f5_))
       refine norm_ (a' := ?_) ?_ ?_
       rotate_left
       ·simp only [putAll, Act.put, List.setIfInBounds_toArray, List.set_cons_zero, List.set_cons_succ]
        rfl
       refine one_ (i := 9) (N := some 45) #[true, true, true, true, true, true, true, true, true, true, false, false, false] rfl rfl (one_of HT_.out u17_) u39_ (fun K hK => ?_)
       refine goes_ Tryd.func78 u17_ rfl #[.pointer (some ⟨g, 0, none⟩), .slice Ao67 y281.length co67] u67_ rfl rfl u0_ ?_
       with_reducible refine (spec_l1Rd_of.calls k g s0_0 t280 _ _ y281 t284 t285 w0 _ ?side1 ?side2 ?side3 ?side4 ?side5 A49.out).mono ?_
       (case side1 => repeat (first | (with_reducible first | exact HI0.out | apply IsS106.alloc | apply IsS106.drewN | apply IsS106.drew | apply IsS106.set_1 | refine IsS106.far ?_ NB0_255.out _ | refine IsS106.far ?_ NB0_261.out _) | exact HI0.out))
       (case side2 => repeat (first | (with_reducible first | exact HB.out | apply below_alloc | apply pw_below_drewN | apply below_drew1 | refine below_set ?_ (IsS106.ge HI0.out) | refine below_set ?_ GE255.out | refine below_set ?_ GE261.out) | exact HB.out))
       (case side3 => repeat (first | exact (Kd.R_reads' HO283.out).2.2 | (with_reducible refine Kd.C_alloc ?_ _) | (with_reducible refine Kd.C_drewN ?_ _) | (with_reducible refine Kd.C_drew ?_)))
       (case side4 => exact (Kd.R_reads' HO283.out).2.1)
       (case side5 => exact far_slice (IsS106.own_ne HI0.out HO283.out u39_))
       rintro e w68 ⟨rfl, hi, hb, hk⟩
       refine ⟨_, rfl, ?_⟩
       have n0_ := Aside0.mk (KeepBut.blk hk (g' := gb255) (o := .cells #[.string (⟨#[]⟩ : ByteArray), .slice none 0 0] 37 (0, 0)) u20_ NB255_0.out u89_)
       have n1_ := Aside0.mk (Kd.R_mono (Kd.R_keep (IsS106.apart (show IsS106 w0 _ g s0_0 t280 from by repeat (first | (with_reducible first | exact HI0.out | apply IsS106.alloc | apply IsS106.drewN | apply IsS106.drew | apply IsS106.set_1 | refine IsS106.far ?_ NB0_255.out _ | refine IsS106.far ?_ NB0_261.out _) | exact HI0.out)) u36_ u39_) hk (fun _ h => h.2)) (fun _ h => h.1))
       have n2_ := Aside0.mk (KeepBut.blk hk (g' := gb261) (o := .cells #[.string t256, .slice Ao59 t257.length co59] 37 (0, 0)) u45_ NB261_0.out u89_)
       have n3_ := Aside0.mk (Kd.R_mono (Kd.R_keep (IsS106.apart (show IsS106 w0 _ g s0_0 t280 from by repeat (first | (with_reducible first | exact HI0.out | apply IsS106.alloc | apply IsS106.drewN | apply IsS106.drew | apply IsS106.set_1 | refine IsS106.far ?_ NB0_255.out _ | refine IsS106.far ?_ NB0_261.out _) | exact HI0.out)) u106_ u39_) hk (fun _ h => h.2)) (fun _ h => h.1))
       have n4_ := Aside0.mk (KeepBut.trans u8_ hk (.inl rfl))
       have n5_ := Aside0.mk (hb)
       have n6_ := Aside0.mk (hi)
       clear BK255
       clear HO259
       clear BK261
       clear HO283
       clear HK
       clear HB
       clear HI0
       have BK255 := n0_
       have HO259 := n1_
       have BK261 := n2_
       have HO283 := n3_
       have HK := n4_
       have HB := n5_
       have HI0 := n6_
       clear n0_ n1_ n2_ n3_ n4_ n5_ n6_
       (try clear hb)
       (try clear hb2)
       (try clear hk)
       (try clear hi)
       have p52 : 0 ≤ (t279 : Int) := of_decide_eq_true u1_
       have q52 : (t279 : Int) < ((t257.length : Int) : Int) := of_decide_eq_true u1_
       obtain ⟨go52, co52, eo52, gb52, gl52, cl52, HG52⟩ := Kd.R_form HO259.out (by omega)
       (first | cases eo52 | (injection eo52 with ea_ en_ ec_; (first | subst ea_ | (injection ea_ with ea_; subst ea_)); subst ec_; clear en_))
       have GB52 := Aside0.mk gb52
       have GG52 := Aside0.mk HG52
       clear gb52 gl52 HG52
       obtain ⟨ce52, hcl52, hM52, hcc52, hfr52⟩ := Kd.R_elem HO259.out z74 (t279 : Int) p52 q52
       obtain rfl := k74_openM hM52
       have hx52_0 : World.cell? _ ⟨go52, (t279 : Int).toNat * 2, none⟩ = some (.string ((rd_T74 t257 t279).f0)) := hcc52 0 _ rfl
       have hx52_1 : World.cell? _ ⟨go52, (t279 : Int).toNat * 2 + 1, none⟩ = some (.string ((rd_T74 t257 t279).f1)) := hcc52 1 _ rfl
       have hf52_0 : World.frozen? _ ⟨go52, (t279 : Int).toNat * 2, none⟩ = false := hfr52 0
       have hf52_1 : World.frozen? _ ⟨go52, (t279 : Int).toNat * 2 + 1, none⟩ = false := hfr52 1
       clear hcl52 hcc52 hfr52 hM52
       replace p52 := eq_true p52
       replace q52 := eq_true q52
       have HN0_go52 := Aside0.mk (show g ≠ go52 from by have h_ := IsS106.own_ne HI0.out HO259.out u39_; intro e_; exact h_ (by rw [e_]; rfl))
       obtain ⟨ce69, hcl69, hM69, hcc69, hfr69⟩ := Kd.R_elem HO259.out z74 (t279 : Int) (of_decide_eq_true u1_) (by have h_ : (t279 : Int) < ((t257.length : Int) : Int) := of_decide_eq_true u1_; first | exact h_ | (have e_ := (Kd.R_reads' HO259.out).1; omega) | simpa using h_)
       obtain rfl := k74_openM hM69
       have HP69 := (Kd.R_seg HO259.out (t279 : Int) (of_decide_eq_true u1_) (by have h_ : (t279 : Int) < ((t257.length : Int) : Int) := of_decide_eq_true u1_; first | exact h_ | (have e_ := (Kd.R_reads' HO259.out).1; omega) | simpa using h_) (seg := [.string t284]) (j := 1) hcl69 hcc69 (show 2 ≤ 2 from by decide) (x' := (⟨(rd_T74 t257 t279).f0, t284⟩ : S74)) (k74_mkM _ _ _ (⟨(rd_T74 t257 t279).f0, t284⟩ : S74) ) (fun _ hk => hk)).1
       rw [← Ny286.out] at HP69
       have HQ69 := Aside0.mk HP69
       clear hcl69 hcc69 hfr69 hM69 HP69
       refine hK.out _ _ ⟨(blk_cell BK261.out 0).trans rfl, (blk_cell BK261.out 1).trans rfl⟩ (fun hHeld => ?_)
       clear hK K
       refine norm_ (a' := ?_) ?_ ?_
       rotate_left
       ·show Act.put _ (some 45) _ = _
        simp only [Act.put, List.setIfInBounds_toArray, List.set_cons_zero, List.set_cons_succ, i64_w, i32_w]
        rfl
       refine pure_ (i := 10) (N := some 46) (v := ?_) (a' := ?_) #[true, true, true, true, true, true, true, true, true, true, true, false, false] rfl rfl (any_of HT_.out u17_) (fun _ _ _ h => h) (Or.inl ⟨u67_, ?_⟩) ?_ ?_
       rotate_left
       ·intro w'
        go_simp
        with_reducible rfl
       rotate_left
       ·simp only [Act.put, List.setIfInBounds_toArray, List.set_cons_zero, List.set_cons_succ, i64_w, i32_w]
        rfl
       refine pure_ (i := 11) (N := some 47) (v := ?_) (a' := ?_) #[true, true, true, true, true, true, true, true, true, true, true, true, false] rfl rfl (any_of HT_.out u17_) (fun _ _ _ h => h) (Or.inl ⟨u67_, ?_⟩) ?_ ?_
       rotate_left
       ·intro w'
        go_simp
        with_reducible rfl
       rotate_left
       ·simp only [Act.put, List.setIfInBounds_toArray, List.set_cons_zero, List.set_cons_succ, i64_w, i32_w]
        rfl
       refine last_ (i := 12) (N := none) #[true, true, true, true, true, true, true, true, true, true, true, true, true] rfl rfl (one_of HT_.out u17_) u39_ (fun K hK => ?_)
       refine skip_ (w1 := ?_) u67_ rfl ?_ ?_
       rotate_left
       ·go_simp
        rfl
       refine hK.out _ _ ?_
       clear hK K
       refine done_ (done_of HT_.out u17_) ?_
       have n0_ : Aside0 (Kd.R k74 74 (w68.setCell ⟨go52, (t279 : Int).toNat * 2 + 1, none⟩ (.string t284)) w.heap.size (fun _ => True) (.slice (some ⟨go52, 0, none⟩) t257.length co59) y286) := ⟨by (with_reducible repeat (first | apply Kd.R_alloc | apply Kd.R_drewN | apply Kd.R_drew)); exact HQ69.out⟩
       have n1_ : Aside0 (Kd.R Kd.string 9 (w68.setCell ⟨go52, (t279 : Int).toNat * 2 + 1, none⟩ (.string t284)) w.heap.size (fun _ => True) (.slice Ao67 y281.length co67) y281) := ⟨by (with_reducible repeat (first | apply Kd.R_alloc | apply Kd.R_drewN | apply Kd.R_drew)); exact Kd.R_mono (Kd.R_far (p := ⟨go52, (t279 : Int).toNat * 2 + 1, none⟩) (Kd.R_types HO283.out GG52.out u39_) (fun _ hk => hk.2) (.string t284)) (fun _ hk => trivial)⟩
       have n2_ : Aside0 ((w68.setCell ⟨go52, (t279 : Int).toNat * 2 + 1, none⟩ (.string t284)).heap[gb255]? = some (.cells #[.string (⟨#[]⟩ : ByteArray), .slice none 0 0] 37 (0, 0))) := ⟨by (with_reducible repeat (first | refine blk_drewN ?_ _ | refine blk_drew ?_ | refine blk_alloc ?_ _)); refine blk_far ?_ (by have h_ := Kd.R_ne HO259.out BK255.out u39_; intro e_; exact h_ (by rw [e_]; rfl)) _; (with_reducible repeat (first | refine blk_drewN ?_ _ | refine blk_drew ?_ | refine blk_alloc ?_ _)); exact BK255.out⟩
       have n3_ : Aside0 ((w68.setCell ⟨go52, (t279 : Int).toNat * 2 + 1, none⟩ (.string t284)).heap[gb261]? = some (.cells #[.string t256, .slice (some ⟨go52, 0, none⟩) t257.length co59] 37 (0, 0))) := ⟨by (with_reducible repeat (first | refine blk_drewN ?_ _ | refine blk_drew ?_ | refine blk_alloc ?_ _)); refine blk_far ?_ (by have h_ := Kd.R_ne HO259.out BK261.out u39_; intro e_; exact h_ (by rw [e_]; rfl)) _; (with_reducible repeat (first | refine blk_drewN ?_ _ | refine blk_drew ?_ | refine blk_alloc ?_ _)); exact BK261.out⟩
       have n4_ : Aside0 (IsS106 w0 (w68.setCell ⟨go52, (t279 : Int).toNat * 2 + 1, none⟩ (.string t284)) g s0_0 t285) := ⟨by repeat (first | (with_reducible first | exact HI0.out | apply IsS106.alloc | apply IsS106.drewN | apply IsS106.drew | apply IsS106.set_1 | refine IsS106.far ?_ HN0_go52.out _ | refine IsS106.far ?_ NB0_255.out _ | refine IsS106.far ?_ NB0_261.out _) | exact HI0.out)⟩
       have n5_ : Aside0 (KeepBut w (w68.setCell ⟨go52, (t279 : Int).toNat * 2 + 1, none⟩ (.string t284)) g none) := ⟨by repeat (first | (with_reducible first | exact HK.out | apply KeepBut.set_ | apply keep_drewN | apply keep_drew | apply keep_alloc | refine keep_far ?_ GB52.out _ | refine keep_far ?_ GW255.out _ | refine keep_far ?_ GW261.out _) | exact HK.out)⟩
       have n6_ : Aside0 (Below w0.heap.size w0 (w68.setCell ⟨go52, (t279 : Int).toNat * 2 + 1, none⟩ (.string t284))) := ⟨by repeat (first | (with_reducible first | exact HB.out | apply below_alloc | apply pw_below_drewN | apply below_drew1 | refine below_set ?_ (Nat.le_trans HL.out GB52.out) | refine below_set ?_ (IsS106.ge HI0.out) | refine below_set ?_ GE255.out | refine below_set ?_ GE261.out) | exact HB.out)⟩
       (try clear HO259)
       (try clear HO283)
       (try clear BK255)
       (try clear BK261)
       (try clear HI0)
       (try clear HK)
       (try clear HB)
       generalize (w68.setCell ⟨go52, (t279 : Int).toNat * 2 + 1, none⟩ (.string t284)) = w70 at n0_ n1_ n2_ n3_ n4_ n5_ n6_ ⊢
       have HO259 := n0_
       have HO283 := n1_
       have BK255 := n2_
       have BK261 := n3_
       have HI0 := n4_
       have HK := n5_
       have HB := n6_
       clear n0_ n1_ n2_ n3_ n4_ n5_ n6_
       have hcz71_0 : w70.cell? ⟨gb261, 0, none⟩ = some (.string t256) := (blk_cell BK261.out 0).trans rfl
       have hcz71_1 : w70.cell? ⟨gb261, 1, none⟩ = some (.slice (some ⟨go52, 0, none⟩) t257.length co59) := (blk_cell BK261.out 1).trans rfl
       have hfz71_0 := blk_frozen BK261.out 0
       have hfz71_1 := blk_frozen BK261.out 1
       have hnb72 := NB255_0.out
       have hnc72 := NB0_255.out
       have hcz73_0 : w70.cell? ⟨gb255, 0, none⟩ = some (.string (⟨#[]⟩ : ByteArray)) := (blk_cell BK255.out 0).trans rfl
       have hcz73_1 : w70.cell? ⟨gb255, 1, none⟩ = some (.slice none 0 0) := (blk_cell BK255.out 1).trans rfl
       have hfz73_0 := blk_frozen BK255.out 0
       have hfz73_1 := blk_frozen BK255.out 1
       try go_wp2
       refine bodyPost_ret (results_cell_row rfl _ _ gb255 37 #[.string t256, .slice (some ⟨go52, 0, none⟩) t257.length co59] (0, 0) _ rfl u63_ Tryd.underlying37 rfl u17_) rfl ?_
       exact ⟨_, u7_, by (with_reducible repeat (first | apply Kd.R_alloc | apply Kd.R_drewN | apply Kd.R_drew)); exact Kd.R_mono (Kd.R_far (p := ⟨gb255, 1, none⟩) (Kd.R_far (p := ⟨gb255, 0, none⟩) (Kd.R_types HO259.out BK255.out u39_) (fun _ hk => hk.2) (.string t256)) (fun _ hk => hk.2) (.slice (some ⟨go52, 0, none⟩) t257.length co59)) (fun _ hk => trivial), u30_, u26_, u8_⟩
      ·rw [if_neg c51] at H
       exact absurd H u89_
     ·rw [if_neg c50] at H
      exact absurd H u89_
    ·rw [if_neg c47] at H
     have c47b0 : decide (0 < (t257.length : Int)) = false := decide_eq_false c47
     have c47b1 : decide (0 < t257.length) = false := decide_eq_false (by omega)
     clear c47
     simp only [Option.some.injEq, Prod.mk.injEq] at H
     obtain ⟨rfl, rfl, rfl⟩ := H
     go_enter Tryd.func62, Tryd.ntmps62
     go_wp2_with (first | ((with_reducible refine gate_dst (N := 4) rfl ?_); refine box_event ?hg (N := 4) ?hd (cs := #[.string (⟨#[]⟩ : ByteArray), .slice none 0 0]) (t := 37) ?hr ?_; (case hd => rfl); (case hg => rfl); (case hr => first | (go_simp; done) | (go_simp; rfl)); intro gb255 hg w74 hbox hb; have n0_ := Aside0.mk (IsS106.below u19_ hb); have n1_ := Aside0.mk (KeepBut.trans u2_ (KeepBut.of_below hb g none) (.inl rfl)); have n2_ := Aside0.mk (below_step u14_ hb); have n3_ := Aside0.mk (hbox); have n4_ := Aside0.mk ((by rw [hg]; exact (keep_size (w := w) (g := g) (row := none) u2_) : w.heap.size ≤ gb255)); have n5_ := Aside0.mk ((Nat.le_trans HW0.out (by rw [hg]; exact (keep_size (w := w) (g := g) (row := none) u2_) : w.heap.size ≤ gb255) : w0.heap.size ≤ gb255)); have n6_ := Aside0.mk ((by rw [hg]; exact Nat.ne_of_lt (IsS106.lt (show IsS106 w0 _ g s0_0 s0_1 from by repeat (first | (with_reducible first | exact HI0.out | apply IsS106.alloc | apply IsS106.drewN | apply IsS106.drew | apply IsS106.set_1) | exact HI0.out))) : g ≠ gb255)); have n7_ := Aside0.mk ((by rw [hg]; exact Nat.ne_of_gt (IsS106.lt (show IsS106 w0 _ g s0_0 s0_1 from by repeat (first | (with_reducible first | exact HI0.out | apply IsS106.alloc | apply IsS106.drewN | apply IsS106.drew | apply IsS106.set_1) | exact HI0.out))) : gb255 ≠ g)); clear HI0; clear HK; clear HB; have HI0 := n0_; have HK := n1_; have HB := n2_; have BK255 := n3_; have GW255 := n4_; have GE255 := n5_; have NB0_255 := n6_; have NB255_0 := n7_; clear n0_ n1_ n2_ n3_ n4_ n5_ n6_ n7_; clear hb hbox hg) | ((with_reducible refine gate_callee (f := 65) rfl ?_); refine goesL_ (some 8) rfl rfl Tryd.func65 u17_ rfl #[.pointer (some ⟨g, 0, none⟩), .slice A1 l1.length c1] rfl u0_ ?_; (with_reducible refine (spec_l11Doc.calls k g s0_0 s0_1 _ _ l1 t256 t257 t260 w0 _ ?side1 ?side2 ?side3 ?side4 A3.out).mono ?_); (case side1 => repeat (first | (with_reducible first | exact HI0.out | apply IsS106.alloc | apply IsS106.drewN | apply IsS106.drew | apply IsS106.set_1 | refine IsS106.far ?_ NB0_255.out _) | exact HI0.out)); (case side2 => repeat (first | (with_reducible first | exact HB.out | apply below_alloc | apply pw_below_drewN | apply below_drew1 | refine below_set ?_ (IsS106.ge HI0.out) | refine below_set ?_ GE255.out) | exact HB.out)); (case side3 => exact Kd.C_foot_step HR1.out u11_); (case side4 => exact HC1.out); rintro e w75 ⟨v258, rfl, ho0, hi, hb, hk⟩; refine ⟨_, rfl, ?_⟩; have n0_ := Aside0.mk (KeepBut.blk hk (g' := gb255) (o := .cells #[.string (⟨#[]⟩ : ByteArray), .slice none 0 0] 37 (0, 0)) u20_ NB255_0.out u89_); have n1_ := Aside0.mk (Kd.R_lower ho0 (keep_size (w := w) (g := g) (row := none) u11_)); have n2_ := Aside0.mk (KeepBut.trans u11_ hk (.inl rfl)); have n3_ := Aside0.mk (hb); have n4_ := Aside0.mk (hi); clear BK255; clear HK; clear HB; clear HI0; have BK255 := n0_; have HO259 := n1_; have HK := n2_; have HB := n3_; have HI0 := n4_; clear n0_ n1_ n2_ n3_ n4_; (try clear hb); (try clear hb2); (try clear hk); (try clear hi); (try clear ho0)) | ((with_reducible refine gate_dst (N := 5) rfl ?_); refine box_event ?hg (N := 5) ?hd (cs := #[.string (⟨#[]⟩ : ByteArray), .slice none 0 0]) (t := 37) ?hr ?_; (case hd => rfl); (case hg => rfl); (case hr => first | (go_simp; done) | (go_simp; rfl)); intro gb261 hg w76 hbox hb; have n0_ := Aside0.mk (Kd.R_below u36_ hb); have n1_ := Aside0.mk (IsS106.below u80_ hb); have n2_ := Aside0.mk (blk_below (g := gb255) (o := .cells #[.string (⟨#[]⟩ : ByteArray), .slice none 0 0] 37 (0, 0)) u20_ hb); have n3_ := Aside0.mk (KeepBut.trans u11_ (KeepBut.of_below hb g none) (.inl rfl)); have n4_ := Aside0.mk (below_step u71_ hb); have n5_ := Aside0.mk (hbox); have n6_ := Aside0.mk ((by rw [hg]; exact (keep_size (w := w) (g := g) (row := none) u11_) : w.heap.size ≤ gb261)); have n7_ := Aside0.mk ((Nat.le_trans HW0.out (by rw [hg]; exact (keep_size (w := w) (g := g) (row := none) u11_) : w.heap.size ≤ gb261) : w0.heap.size ≤ gb261)); have n8_ := Aside0.mk ((by rw [hg]; exact Nat.ne_of_lt (blk_lt (g := gb255) (o := .cells #[.string (⟨#[]⟩ : ByteArray), .slice none 0 0] 37 (0, 0)) u20_) : gb255 ≠ gb261)); have n9_ := Aside0.mk ((by rw [hg]; exact Nat.ne_of_gt (blk_lt (g := gb255) (o := .cells #[.string (⟨#[]⟩ : ByteArray), .slice none 0 0] 37 (0, 0)) u20_) : gb261 ≠ gb255)); have n10_ := Aside0.mk ((by rw [hg]; exact Nat.ne_of_lt (IsS106.lt (show IsS106 w0 _ g s0_0 t260 from by repeat (first | (with_reducible first | exact HI0.out | apply IsS106.alloc | apply IsS106.drewN | apply IsS106.drew | apply IsS106.set_1 | refine IsS106.far ?_ NB0_255.out _) | exact HI0.out))) : g ≠ gb261)); have n11_ := Aside0.mk ((by rw [hg]; exact Nat.ne_of_gt (IsS106.lt (show IsS106 w0 _ g s0_0 t260 from by repeat (first | (with_reducible first | exact HI0.out | apply IsS106.alloc | apply IsS106.drewN | apply IsS106.drew | apply IsS106.set_1 | refine IsS106.far ?_ NB0_255.out _) | exact HI0.out))) : gb261 ≠ g)); clear HO259; clear HI0; clear BK255; clear HK; clear HB; have HO259 := n0_; have HI0 := n1_; have BK255 := n2_; have HK := n3_; have HB := n4_; have BK261 := n5_; have GW261 := n6_; have GE261 := n7_; have NB255_261 := n8_; have NB261_255 := n9_; have NB0_261 := n10_; have NB261_0 := n11_; clear n0_ n1_ n2_ n3_ n4_ n5_ n6_ n7_ n8_ n9_ n10_ n11_; clear hb hbox hg; have hnb77 := NB261_255.out; have hnc77 := NB255_261.out; have hnb78 := NB261_0.out; have hnc78 := NB0_261.out; have hcz79_0 : w76.cell? ⟨gb261, 0, none⟩ = some (.string (⟨#[]⟩ : ByteArray)) := (blk_cell BK261.out 0).trans rfl; have hcz79_1 : w76.cell? ⟨gb261, 1, none⟩ = some (.slice none 0 0) := (blk_cell BK261.out 1).trans rfl; have hfz79_0 := blk_frozen BK261.out 0; have hfz79_1 := blk_frozen BK261.out 1; obtain ⟨Ao80, co80, eo80⟩ := Kd.R_slice HO259.out; subst eo80) | ((with_reducible refine gate_callee (f := 77) rfl ?_); refine goesL_ (some 10) rfl rfl Tryd.func77 u17_ rfl #[.pointer (some ⟨g, 0, none⟩), .int .i64 14] rfl u0_ ?_; (with_reducible refine (spec_l1Rd_pick.calls k g s0_0 t260 14 t262 t263 w0 _ ?side1 ?side2 A4.out).mono ?_); (case side1 => repeat (first | (with_reducible first | exact HI0.out | apply IsS106.alloc | apply IsS106.drewN | apply IsS106.drew | apply IsS106.set_1 | refine IsS106.far ?_ NB0_255.out _ | refine IsS106.far ?_ NB0_261.out _) | exact HI0.out)); (case side2 => repeat (first | (with_reducible first | exact HB.out | apply below_alloc | apply pw_below_drewN | apply below_drew1 | refine below_set ?_ (IsS106.ge HI0.out) | refine below_set ?_ GE255.out | refine below_set ?_ GE261.out) | exact HB.out)); rintro e w81 ⟨rfl, hi, hb, hk⟩; refine ⟨_, rfl, ?_⟩; have n0_ := Aside0.mk (KeepBut.blk hk (g' := gb255) (o := .cells #[.string (⟨#[]⟩ : ByteArray), .slice none 0 0] 37 (0, 0)) u41_ NB255_0.out u89_); have n1_ := Aside0.mk (Kd.R_mono (Kd.R_keep (IsS106.apart (show IsS106 w0 _ g s0_0 t260 from by repeat (first | (with_reducible first | exact HI0.out | apply IsS106.alloc | apply IsS106.drewN | apply IsS106.drew | apply IsS106.set_1 | refine IsS106.far ?_ NB0_255.out _ | refine IsS106.far ?_ NB0_261.out _) | exact HI0.out)) (by (with_reducible repeat (first | apply Kd.R_alloc | apply Kd.R_drewN | apply Kd.R_drew)); exact (Kd.R_mono (Kd.R_far (p := ⟨gb261, 1, none⟩) (Kd.R_far (p := ⟨gb261, 0, none⟩) (Kd.R_types HO259.out BK261.out u39_) (fun _ hk => hk.2) (.string t256)) (fun _ hk => hk.2) (.slice Ao80 t257.length co80)) (fun _ h_ => h_.1))) u39_) hk (fun _ h => h.2)) (fun _ h => h.1)); have n2_ := Aside0.mk (KeepBut.blk hk (g' := gb261) (o := .cells #[.string t256, .slice Ao80 t257.length co80] 37 (0, 0)) u34_ NB261_0.out u89_); have n3_ := Aside0.mk (KeepBut.trans u8_ hk (.inl rfl)); have n4_ := Aside0.mk (hb); have n5_ := Aside0.mk (hi); clear BK255; clear HO259; clear BK261; clear HK; clear HB; clear HI0; have BK255 := n0_; have HO259 := n1_; have BK261 := n2_; have HK := n3_; have HB := n4_; have HI0 := n5_; clear n0_ n1_ n2_ n3_ n4_ n5_; (try clear hb); (try clear hb2); (try clear hk); (try clear hi); have hcz82_0 : w81.cell? ⟨gb261, 0, none⟩ = some (.string t256) := (blk_cell BK261.out 0).trans rfl; have hcz82_1 : w81.cell? ⟨gb261, 1, none⟩ = some (.slice Ao80 t257.length co80) := (blk_cell BK261.out 1).trans rfl; have hfz82_0 := blk_frozen BK261.out 0; have hfz82_1 := blk_frozen BK261.out 1; have hnb83 := NB255_0.out; have hnc83 := NB0_255.out; have hcz84_0 : w81.cell? ⟨gb255, 0, none⟩ = some (.string (⟨#[]⟩ : ByteArray)) := (blk_cell BK255.out 0).trans rfl; have hcz84_1 : w81.cell? ⟨gb255, 1, none⟩ = some (.slice none 0 0) := (blk_cell BK255.out 1).trans rfl; have hfz84_0 := blk_frozen BK255.out 0; have hfz84_1 := blk_frozen BK255.out 1))
     refine bodyPost_ret (results_cell_row rfl _ _ gb255 37 #[.string t256, .slice Ao80 t257.length co80] (0, 0) _ rfl u63_ Tryd.underlying37 rfl u17_) rfl ?_
     exact ⟨_, u7_, by (with_reducible repeat (first | apply Kd.R_alloc | apply Kd.R_drewN | apply Kd.R_drew)); exact Kd.R_mono (Kd.R_far (p := ⟨gb255, 1, none⟩) (Kd.R_far (p := ⟨gb255, 0, none⟩) (Kd.R_types HO259.out BK255.out u39_) (fun _ hk => hk.2) (.string t256)) (fun _ hk => hk.2) (.slice Ao80 t257.length co80)) (fun _ hk => trivial), u30_, u26_, u8_⟩
   ·rw [if_neg c46] at H
    have c46b0 : (t262 == 2) = false := beq_eq_false_iff_ne.mpr c46
    have c46b1 : (t262 != 2) = true := bne_iff_ne.mpr c46
    simp only [Option.some.injEq, Prod.mk.injEq] at H
    obtain ⟨rfl, rfl, rfl⟩ := H
    go_enter Tryd.func62, Tryd.ntmps62
    go_wp2_with (first | ((with_reducible refine gate_dst (N := 4) rfl ?_); refine box_event ?hg (N := 4) ?hd (cs := #[.string (⟨#[]⟩ : ByteArray), .slice none 0 0]) (t := 37) ?hr ?_; (case hd => rfl); (case hg => rfl); (case hr => first | (go_simp; done) | (go_simp; rfl)); intro gb255 hg w85 hbox hb; have n0_ := Aside0.mk (IsS106.below u19_ hb); have n1_ := Aside0.mk (KeepBut.trans u2_ (KeepBut.of_below hb g none) (.inl rfl)); have n2_ := Aside0.mk (below_step u14_ hb); have n3_ := Aside0.mk (hbox); have n4_ := Aside0.mk ((by rw [hg]; exact (keep_size (w := w) (g := g) (row := none) u2_) : w.heap.size ≤ gb255)); have n5_ := Aside0.mk ((Nat.le_trans HW0.out (by rw [hg]; exact (keep_size (w := w) (g := g) (row := none) u2_) : w.heap.size ≤ gb255) : w0.heap.size ≤ gb255)); have n6_ := Aside0.mk ((by rw [hg]; exact Nat.ne_of_lt (IsS106.lt (show IsS106 w0 _ g s0_0 s0_1 from by repeat (first | (with_reducible first | exact HI0.out | apply IsS106.alloc | apply IsS106.drewN | apply IsS106.drew | apply IsS106.set_1) | exact HI0.out))) : g ≠ gb255)); have n7_ := Aside0.mk ((by rw [hg]; exact Nat.ne_of_gt (IsS106.lt (show IsS106 w0 _ g s0_0 s0_1 from by repeat (first | (with_reducible first | exact HI0.out | apply IsS106.alloc | apply IsS106.drewN | apply IsS106.drew | apply IsS106.set_1) | exact HI0.out))) : gb255 ≠ g)); clear HI0; clear HK; clear HB; have HI0 := n0_; have HK := n1_; have HB := n2_; have BK255 := n3_; have GW255 := n4_; have GE255 := n5_; have NB0_255 := n6_; have NB255_0 := n7_; clear n0_ n1_ n2_ n3_ n4_ n5_ n6_ n7_; clear hb hbox hg) | ((with_reducible refine gate_callee (f := 65) rfl ?_); refine goesL_ (some 8) rfl rfl Tryd.func65 u17_ rfl #[.pointer (some ⟨g, 0, none⟩), .slice A1 l1.length c1] rfl u0_ ?_; (with_reducible refine (spec_l11Doc.calls k g s0_0 s0_1 _ _ l1 t256 t257 t260 w0 _ ?side1 ?side2 ?side3 ?side4 A3.out).mono ?_); (case side1 => repeat (first | (with_reducible first | exact HI0.out | apply IsS106.alloc | apply IsS106.drewN | apply IsS106.drew | apply IsS106.set_1 | refine IsS106.far ?_ NB0_255.out _) | exact HI0.out)); (case side2 => repeat (first | (with_reducible first | exact HB.out | apply below_alloc | apply pw_below_drewN | apply below_drew1 | refine below_set ?_ (IsS106.ge HI0.out) | refine below_set ?_ GE255.out) | exact HB.out)); (case side3 => exact Kd.C_foot_step HR1.out u11_); (case side4 => exact HC1.out); rintro e w86 ⟨v258, rfl, ho0, hi, hb, hk⟩; refine ⟨_, rfl, ?_⟩; have n0_ := Aside0.mk (KeepBut.blk hk (g' := gb255) (o := .cells #[.string (⟨#[]⟩ : ByteArray), .slice none 0 0] 37 (0, 0)) u20_ NB255_0.out u89_); have n1_ := Aside0.mk (Kd.R_lower ho0 (keep_size (w := w) (g := g) (row := none) u11_)); have n2_ := Aside0.mk (KeepBut.trans u11_ hk (.inl rfl)); have n3_ := Aside0.mk (hb); have n4_ := Aside0.mk (hi); clear BK255; clear HK; clear HB; clear HI0; have BK255 := n0_; have HO259 := n1_; have HK := n2_; have HB := n3_; have HI0 := n4_; clear n0_ n1_ n2_ n3_ n4_; (try clear hb); (try clear hb2); (try clear hk); (try clear hi); (try clear ho0)) | ((with_reducible refine gate_dst (N := 5) rfl ?_); refine box_event ?hg (N := 5) ?hd (cs := #[.string (⟨#[]⟩ : ByteArray), .slice none 0 0]) (t := 37) ?hr ?_; (case hd => rfl); (case hg => rfl); (case hr => first | (go_simp; done) | (go_simp; rfl)); intro gb261 hg w87 hbox hb; have n0_ := Aside0.mk (Kd.R_below u36_ hb); have n1_ := Aside0.mk (IsS106.below u80_ hb); have n2_ := Aside0.mk (blk_below (g := gb255) (o := .cells #[.string (⟨#[]⟩ : ByteArray), .slice none 0 0] 37 (0, 0)) u20_ hb); have n3_ := Aside0.mk (KeepBut.trans u11_ (KeepBut.of_below hb g none) (.inl rfl)); have n4_ := Aside0.mk (below_step u71_ hb); have n5_ := Aside0.mk (hbox); have n6_ := Aside0.mk ((by rw [hg]; exact (keep_size (w := w) (g := g) (row := none) u11_) : w.heap.size ≤ gb261)); have n7_ := Aside0.mk ((Nat.le_trans HW0.out (by rw [hg]; exact (keep_size (w := w) (g := g) (row := none) u11_) : w.heap.size ≤ gb261) : w0.heap.size ≤ gb261)); have n8_ := Aside0.mk ((by rw [hg]; exact Nat.ne_of_lt (blk_lt (g := gb255) (o := .cells #[.string (⟨#[]⟩ : ByteArray), .slice none 0 0] 37 (0, 0)) u20_) : gb255 ≠ gb261)); have n9_ := Aside0.mk ((by rw [hg]; exact Nat.ne_of_gt (blk_lt (g := gb255) (o := .cells #[.string (⟨#[]⟩ : ByteArray), .slice none 0 0] 37 (0, 0)) u20_) : gb261 ≠ gb255)); have n10_ := Aside0.mk ((by rw [hg]; exact Nat.ne_of_lt (IsS106.lt (show IsS106 w0 _ g s0_0 t260 from by repeat (first | (with_reducible first | exact HI0.out | apply IsS106.alloc | apply IsS106.drewN | apply IsS106.drew | apply IsS106.set_1 | refine IsS106.far ?_ NB0_255.out _) | exact HI0.out))) : g ≠ gb261)); have n11_ := Aside0.mk ((by rw [hg]; exact Nat.ne_of_gt (IsS106.lt (show IsS106 w0 _ g s0_0 t260 from by repeat (first | (with_reducible first | exact HI0.out | apply IsS106.alloc | apply IsS106.drewN | apply IsS106.drew | apply IsS106.set_1 | refine IsS106.far ?_ NB0_255.out _) | exact HI0.out))) : gb261 ≠ g)); clear HO259; clear HI0; clear BK255; clear HK; clear HB; have HO259 := n0_; have HI0 := n1_; have BK255 := n2_; have HK := n3_; have HB := n4_; have BK261 := n5_; have GW261 := n6_; have GE261 := n7_; have NB255_261 := n8_; have NB261_255 := n9_; have NB0_261 := n10_; have NB261_0 := n11_; clear n0_ n1_ n2_ n3_ n4_ n5_ n6_ n7_ n8_ n9_ n10_ n11_; clear hb hbox hg; have hnb88 := NB261_255.out; have hnc88 := NB255_261.out; have hnb89 := NB261_0.out; have hnc89 := NB0_261.out; have hcz90_0 : w87.cell? ⟨gb261, 0, none⟩ = some (.string (⟨#[]⟩ : ByteArray)) := (blk_cell BK261.out 0).trans rfl; have hcz90_1 : w87.cell? ⟨gb261, 1, none⟩ = some (.slice none 0 0) := (blk_cell BK261.out 1).trans rfl; have hfz90_0 := blk_frozen BK261.out 0; have hfz90_1 := blk_frozen BK261.out 1; obtain ⟨Ao91, co91, eo91⟩ := Kd.R_slice HO259.out; subst eo91) | ((with_reducible refine gate_callee (f := 77) rfl ?_); refine goesL_ (some 10) rfl rfl Tryd.func77 u17_ rfl #[.pointer (some ⟨g, 0, none⟩), .int .i64 14] rfl u0_ ?_; (with_reducible refine (spec_l1Rd_pick.calls k g s0_0 t260 14 t262 t263 w0 _ ?side1 ?side2 A4.out).mono ?_); (case side1 => repeat (first | (with_reducible first | exact HI0.out | apply IsS106.alloc | apply IsS106.drewN | apply IsS106.drew | apply IsS106.set_1 | refine IsS106.far ?_ NB0_255.out _ | refine IsS106.far ?_ NB0_261.out _) | exact HI0.out)); (case side2 => repeat (first | (with_reducible first | exact HB.out | apply below_alloc | apply pw_below_drewN | apply below_drew1 | refine below_set ?_ (IsS106.ge HI0.out) | refine below_set ?_ GE255.out | refine below_set ?_ GE261.out) | exact HB.out)); rintro e w92 ⟨rfl, hi, hb, hk⟩; refine ⟨_, rfl, ?_⟩; have n0_ := Aside0.mk (KeepBut.blk hk (g' := gb255) (o := .cells #[.string (⟨#[]⟩ : ByteArray), .slice none 0 0] 37 (0, 0)) u41_ NB255_0.out u89_); have n1_ := Aside0.mk (Kd.R_mono (Kd.R_keep (IsS106.apart (show IsS106 w0 _ g s0_0 t260 from by repeat (first | (with_reducible first | exact HI0.out | apply IsS106.alloc | apply IsS106.drewN | apply IsS106.drew | apply IsS106.set_1 | refine IsS106.far ?_ NB0_255.out _ | refine IsS106.far ?_ NB0_261.out _) | exact HI0.out)) (by (with_reducible repeat (first | apply Kd.R_alloc | apply Kd.R_drewN | apply Kd.R_drew)); exact (Kd.R_mono (Kd.R_far (p := ⟨gb261, 1, none⟩) (Kd.R_far (p := ⟨gb261, 0, none⟩) (Kd.R_types HO259.out BK261.out u39_) (fun _ hk => hk.2) (.string t256)) (fun _ hk => hk.2) (.slice Ao91 t257.length co91)) (fun _ h_ => h_.1))) u39_) hk (fun _ h => h.2)) (fun _ h => h.1)); have n2_ := Aside0.mk (KeepBut.blk hk (g' := gb261) (o := .cells #[.string t256, .slice Ao91 t257.length co91] 37 (0, 0)) u34_ NB261_0.out u89_); have n3_ := Aside0.mk (KeepBut.trans u8_ hk (.inl rfl)); have n4_ := Aside0.mk (hb); have n5_ := Aside0.mk (hi); clear BK255; clear HO259; clear BK261; clear HK; clear HB; clear HI0; have BK255 := n0_; have HO259 := n1_; have BK261 := n2_; have HK := n3_; have HB := n4_; have HI0 := n5_; clear n0_ n1_ n2_ n3_ n4_ n5_; (try clear hb); (try clear hb2); (try clear hk); (try clear hi); have hcz93_0 : w92.cell? ⟨gb261, 0, none⟩ = some (.string t256) := (blk_cell BK261.out 0).trans rfl; have hcz93_1 : w92.cell? ⟨gb261, 1, none⟩ = some (.slice Ao91 t257.length co91) := (blk_cell BK261.out 1).trans rfl; have hfz93_0 := blk_frozen BK261.out 0; have hfz93_1 := blk_frozen BK261.out 1; have hnb94 := NB255_0.out; have hnc94 := NB0_255.out; have hcz95_0 : w92.cell? ⟨gb255, 0, none⟩ = some (.string (⟨#[]⟩ : ByteArray)) := (blk_cell BK255.out 0).trans rfl; have hcz95_1 : w92.cell? ⟨gb255, 1, none⟩ = some (.slice none 0 0) := (blk_cell BK255.out 1).trans rfl; have hfz95_0 := blk_frozen BK255.out 0; have hfz95_1 := blk_frozen BK255.out 1))
    refine bodyPost_ret (results_cell_row rfl _ _ gb255 37 #[.string t256, .slice Ao91 t257.length co91] (0, 0) _ rfl u63_ Tryd.underlying37 rfl u17_) rfl ?_
    exact ⟨_, u7_, by (with_reducible repeat (first | apply Kd.R_alloc | apply Kd.R_drewN | apply Kd.R_drew)); exact Kd.R_mono (Kd.R_far (p := ⟨gb255, 1, none⟩) (Kd.R_far (p := ⟨gb255, 0, none⟩) (Kd.R_types HO259.out BK255.out u39_) (fun _ hk => hk.2) (.string t256)) (fun _ hk => hk.2) (.slice Ao91 t257.length co91)) (fun _ hk => trivial), u30_, u26_, u8_⟩

/-! ### spec_l10Fields: function 63 -/
def spec_l10Fields.f  : Option ((List (S32))) := some (([(⟨(⟨#[116, 105, 116, 108, 101]⟩ : ByteArray), 1, 3⟩ : S32), (⟨(⟨#[98, 111, 100, 121]⟩ : ByteArray), 1, 1⟩ : S32), (⟨(⟨#[112, 114, 105, 99, 101]⟩ : ByteArray), 2, 0⟩ : S32), (⟨(⟨#[99, 111, 108, 111, 114]⟩ : ByteArray), 3, 0⟩ : S32)] : List (S32)))
set_option maxHeartbeats 8000000 in
set_option maxRecDepth 100000 in
theorem spec_l10Fields.calls  (r : List (S32)) (w : World) (h : spec_l10Fields.f  = some r) :
  Calls Tryd.prog 63 #[] w fun e w' => ∃ v0_ : Value, e = .returned (v0_) ∧ Kd.R k32 32 w' w.heap.size (fun _ => True) v0_ r ∧ Below w.heap.size w w' := by
 have hu32 := Tryd.underlying32
 have HB := Aside0.mk (Below.refl w.heap.size w)
 have H : (some (([(⟨(⟨#[116, 105, 116, 108, 101]⟩ : ByteArray), 1, 3⟩ : S32), (⟨(⟨#[98, 111, 100, 121]⟩ : ByteArray), 1, 1⟩ : S32), (⟨(⟨#[112, 114, 105, 99, 101]⟩ : ByteArray), 2, 0⟩ : S32), (⟨(⟨#[99, 111, 108, 111, 114]⟩ : ByteArray), 3, 0⟩ : S32)] : List (S32)))) = some r := h
 clear h
 obtain ⟨y287, hy287⟩ : ∃ y_ : List (S32), y_ = (([(⟨(⟨#[116, 105, 116, 108, 101]⟩ : ByteArray), 1, 3⟩ : S32), (⟨(⟨#[98, 111, 100, 121]⟩ : ByteArray), 1, 1⟩ : S32), (⟨(⟨#[112, 114, 105, 99, 101]⟩ : ByteArray), 2, 0⟩ : S32), (⟨(⟨#[99, 111, 108, 111, 114]⟩ : ByteArray), 3, 0⟩ : S32)] : List (S32))) := ⟨_, rfl⟩
 replace H : (some y287) = some r := by first | (rw [hy287]; with_reducible exact H) | (have H2_ := (Option.bind_some _ _).symm.trans H; rw [hy287]; with_reducible exact H2_) | (have H2_ := (Option.bind_some _ _).symm.trans H; with_reducible exact H2_) | with_reducible exact H | (rw [hy287]; exact H) | exact H
 have Ny287 := Aside0.mk hy287
 clear hy287
 obtain rfl := Option.some.inj H
 go_enter Tryd.func63, Tryd.ntmps63
 go_wp2_with (first | ((with_reducible refine gate_dst (N := 5) rfl ?_); refine Kd.R_lit k32 _ 32 ?hg (N := 5) ?hd (xs := ([(⟨(⟨#[116, 105, 116, 108, 101]⟩ : ByteArray), 1, 3⟩ : S32), (⟨(⟨#[98, 111, 100, 121]⟩ : ByteArray), 1, 1⟩ : S32), (⟨(⟨#[112, 114, 105, 99, 101]⟩ : ByteArray), 2, 0⟩ : S32), (⟨(⟨#[99, 111, 108, 111, 114]⟩ : ByteArray), 3, 0⟩ : S32)] : List (S32))) (inner := [.string (⟨#[116, 105, 116, 108, 101]⟩ : ByteArray), .int .i64 1, .int .i64 3, .string (⟨#[98, 111, 100, 121]⟩ : ByteArray), .int .i64 1, .int .i64 1, .string (⟨#[112, 114, 105, 99, 101]⟩ : ByteArray), .int .i64 2, .int .i64 0, .string (⟨#[99, 111, 108, 111, 114]⟩ : ByteArray), .int .i64 3, .int .i64 0]) (ok := fun _ => True) (okp := fun _ => True) ?hr ?hp (fun _ hk => hk) trivial (Below.refl _ _) (Nat.le_refl _) u89_ ?_; (case hd => rfl); (case hg => rfl); (case hr => first | (go_simp; done) | (go_simp; rfl)); (case hp => exact (Reps.c3 (show Kd.M k32 _ _ _ (⟨(⟨#[116, 105, 116, 108, 101]⟩ : ByteArray), 1, 3⟩ : S32) [.string (⟨#[116, 105, 116, 108, 101]⟩ : ByteArray), .int .i64 1, .int .i64 3] from (k32_mkM _ _ _ (⟨(⟨#[116, 105, 116, 108, 101]⟩ : ByteArray), 1, 3⟩ : S32) )) (Reps.c3 (show Kd.M k32 _ _ _ (⟨(⟨#[98, 111, 100, 121]⟩ : ByteArray), 1, 1⟩ : S32) [.string (⟨#[98, 111, 100, 121]⟩ : ByteArray), .int .i64 1, .int .i64 1] from (k32_mkM _ _ _ (⟨(⟨#[98, 111, 100, 121]⟩ : ByteArray), 1, 1⟩ : S32) )) (Reps.c3 (show Kd.M k32 _ _ _ (⟨(⟨#[112, 114, 105, 99, 101]⟩ : ByteArray), 2, 0⟩ : S32) [.string (⟨#[112, 114, 105, 99, 101]⟩ : ByteArray), .int .i64 2, .int .i64 0] from (k32_mkM _ _ _ (⟨(⟨#[112, 114, 105, 99, 101]⟩ : ByteArray), 2, 0⟩ : S32) )) (Reps.c3 (show Kd.M k32 _ _ _ (⟨(⟨#[99, 111, 108, 111, 114]⟩ : ByteArray), 3, 0⟩ : S32) [.string (⟨#[99, 111, 108, 111, 114]⟩ : ByteArray), .int .i64 3, .int .i64 0] from (k32_mkM _ _ _ (⟨(⟨#[99, 111, 108, 111, 114]⟩ : ByteArray), 3, 0⟩ : S32) )) (Reps.none _ _)))))); intro v288 w1 ho2 hb hg_ hnew_; clear hg_ hnew_; (first | rw [← Ny287.out] at ho2 | (simp only [Int.reduceToNat] at ho2; rw [← Ny287.out] at ho2)); have n0_ := Aside0.mk (Kd.R_lower ho2 (below_size u3_)); have n1_ := Aside0.mk (below_step u3_ hb); clear HB; have HO289 := n0_; have HB := n1_; clear n0_ n1_; clear hb ho2))
 go_ret
 exact ⟨_, u7_, by (with_reducible repeat (first | apply Kd.R_alloc | apply Kd.R_drewN | apply Kd.R_drew)); exact HO289.out, u3_⟩

/-! ### spec_DrawDocPut: function 26 -/
def spec_DrawDocPut.f (k : Nat) (l0 : List Int) : Option (ByteArray × (List (S74))) := (spec_l1Open.f l0).bind fun bt291 => ((spec_l10Fields.f).bind fun t294 => ((spec_l11AnyDoc.f k bt291.1 bt291.2 t294).bind fun bt297 => (some (bt297.1, bt297.2.1))))
theorem spec_DrawDocPut.mono : ∀ a0 k, LeO (spec_DrawDocPut.f k a0) (spec_DrawDocPut.f (k + 1) a0) := by
 intro a0 k
 unfold spec_DrawDocPut.f
 repeat' first
   | (with_reducible exact spec_l11AnyDoc.mono _ _ _ _)
   | (with_reducible exact LeO.refl _)
   | (with_reducible exact LeO.none _)
   | (with_reducible refine LeO.ite ?_ ?_)
   | (with_reducible refine LeO.bind ?_ (fun _ => ?_))
   | exact spec_l11AnyDoc.mono _ _ _ _
   | exact LeO.none _
   | refine LeO.ite ?_ ?_
   | refine LeO.bind ?_ (fun _ => ?_)
set_option maxHeartbeats 8000000 in
set_option maxRecDepth 100000 in
theorem spec_DrawDocPut.calls (k : Nat) (A0 : Option Addr) (c0 : Nat) (l0 : List Int) (r1 : ByteArray) (r2 : List (S74)) (w : World) (hr0 : Kd.C (Kd.int .u8) w A0 l0.length l0) (hc0 : l0.length ≤ c0) (h : spec_DrawDocPut.f k l0 = some (r1, r2)) :
  Calls Tryd.prog 26 #[.slice A0 l0.length c0] w fun e w' => ∃ v1_ : Value, e = .returned (.agg #[.string r1, v1_]) ∧ Kd.R k74 74 w' w.heap.size (fun _ => True) v1_ r2 ∧ Below w.heap.size w w' := by
 have hu37 := Tryd.underlying37
 have HR0 := Aside0.mk hr0
 have HC0 := Aside0.mk hc0
 clear hr0 hc0
 have HB := Aside0.mk (Below.refl w.heap.size w)
 have H : ((spec_l1Open.f l0).bind fun bt291 => ((spec_l10Fields.f).bind fun t294 => ((spec_l11AnyDoc.f k bt291.1 bt291.2 t294).bind fun bt297 => (some (bt297.1, bt297.2.1))))) = some (r1, r2) := h
 clear h
 replace H := Option.bind_eq_some_iff.mp H
 obtain ⟨⟨t291, t292⟩, A20, H⟩ := H
 replace H : ((spec_l10Fields.f).bind fun t294 => ((spec_l11AnyDoc.f k t291 t292 t294).bind fun bt297 => (some (bt297.1, bt297.2.1)))) = some (r1, r2) := H
 have A2 := Aside0.mk A20
 clear A20
 replace H := Option.bind_eq_some_iff.mp H
 obtain ⟨t294, A30, H⟩ := H
 replace H : ((spec_l11AnyDoc.f k t291 t292 t294).bind fun bt297 => (some (bt297.1, bt297.2.1))) = some (r1, r2) := H
 have A3 := Aside0.mk A30
 clear A30
 replace H := Option.bind_eq_some_iff.mp H
 obtain ⟨⟨t297, t298, t301⟩, A40, H⟩ := H
 replace H : (some (t297, t298)) = some (r1, r2) := H
 have A4 := Aside0.mk A40
 clear A40
 simp only [Option.some.injEq, Prod.mk.injEq] at H
 obtain ⟨rfl, rfl⟩ := H
 go_enter Tryd.func26, Tryd.ntmps26
 go_wp2_with (first | ((with_reducible refine gate_dst (N := 2) rfl ?_); refine box_event ?hg (N := 2) ?hd (cs := #[.string (⟨#[]⟩ : ByteArray), .slice none 0 0]) (t := 37) ?hr ?_; (case hd => rfl); (case hg => rfl); (case hr => first | (go_simp; done) | (go_simp; rfl)); intro gb290 hg w5 hbox hb; have n0_ := Aside0.mk (below_step u3_ hb); have n1_ := Aside0.mk (hbox); have n2_ := Aside0.mk ((by rw [hg]; exact (below_size u3_) : w.heap.size ≤ gb290)); have n3_ := n2_; clear HB; have HB := n0_; have BK290 := n1_; have GW290 := n2_; have GE290 := n3_; clear n0_ n1_ n2_ n3_; clear hb hbox hg) | ((with_reducible refine gate_callee (f := 42) rfl ?_); refine goesL_ (some 5) rfl rfl Tryd.func42 u17_ rfl #[.slice A0 l0.length c0] rfl u0_ ?_; (with_reducible refine (spec_l1Open.calls _ _ l0 t291 t292 w _ ?side1 ?side2 ?side3 A2.out).mono ?_); (case side1 => repeat (first | (with_reducible first | exact HB.out | apply below_alloc | apply pw_below_drewN | apply below_drew1 | refine below_set ?_ GE290.out) | exact HB.out)); (case side2 => exact HR0.out); (case side3 => exact HC0.out); rintro e w6 ⟨g293, rfl, hi, hb, hb2⟩; refine ⟨_, rfl, ?_⟩; have n0_ := Aside0.mk (blk_below (g := gb290) (o := .cells #[.string (⟨#[]⟩ : ByteArray), .slice none 0 0] 37 (0, 0)) u95_ hb2); have n1_ := Aside0.mk (hb); have n2_ := Aside0.mk (hi); have n3_ := Aside0.mk (IsS106.ne_blk hi (blk_below (g := gb290) (o := .cells #[.string (⟨#[]⟩ : ByteArray), .slice none 0 0] 37 (0, 0)) u95_ hb2) u39_); have n4_ := Aside0.mk (Ne.symm (IsS106.ne_blk hi (blk_below (g := gb290) (o := .cells #[.string (⟨#[]⟩ : ByteArray), .slice none 0 0] 37 (0, 0)) u95_ hb2) u39_)); clear BK290; clear HB; have BK290 := n0_; have HB := n1_; have HI293 := n2_; have NB293_290 := n3_; have NB290_293 := n4_; clear n0_ n1_ n2_ n3_ n4_; (try clear hb); (try clear hb2); (try clear hk); (try clear hi)) | ((with_reducible refine gate_callee (f := 63) rfl ?_); refine goesL_ (some 7) rfl rfl Tryd.func63 u17_ rfl #[] rfl u0_ ?_; (with_reducible refine (spec_l10Fields.calls  t294 _ A3.out).mono ?_); rintro e w7 ⟨v295, rfl, ho0, hb⟩; refine ⟨_, rfl, ?_⟩; have n0_ := Aside0.mk (Kd.R_lower ho0 (below_size u88_)); have n1_ := Aside0.mk (blk_below (g := gb290) (o := .cells #[.string (⟨#[]⟩ : ByteArray), .slice none 0 0] 37 (0, 0)) u95_ hb); have n2_ := Aside0.mk (IsS106.below (by repeat (first | (with_reducible first | exact HI293.out | apply IsS106.alloc | apply IsS106.drewN | apply IsS106.drew | apply IsS106.set_1 | refine IsS106.far ?_ NB293_290.out _) | exact HI293.out)) hb); have n3_ := Aside0.mk (below_step u88_ hb); clear BK290; clear HI293; clear HB; have HO296 := n0_; have BK290 := n1_; have HI293 := n2_; have HB := n3_; clear n0_ n1_ n2_ n3_; (try clear hb); (try clear hb2); (try clear hk); (try clear hi); (try clear ho0); obtain ⟨Ao8, co8, eo8⟩ := Kd.R_slice HO296.out; subst eo8) | ((with_reducible refine gate_callee (f := 62) rfl ?_); refine goesL_ (some 8) rfl rfl Tryd.func62 u17_ rfl #[.pointer (some ⟨g293, 0, none⟩), .slice Ao8 t294.length co8] rfl u0_ ?_; (with_reducible refine (spec_l11AnyDoc.calls k g293 t291 t292 _ _ t294 t297 t298 t301 w _ ?side1 ?side2 ?side3 ?side4 A4.out).mono ?_); (case side1 => repeat (first | (with_reducible first | exact HI293.out | apply IsS106.alloc | apply IsS106.drewN | apply IsS106.drew | apply IsS106.set_1 | refine IsS106.far ?_ NB293_290.out _) | exact HI293.out)); (case side2 => repeat (first | (with_reducible first | exact HB.out | apply below_alloc | apply pw_below_drewN | apply below_drew1 | refine below_set ?_ (IsS106.ge HI293.out) | refine below_set ?_ GE290.out) | exact HB.out)); (case side3 => exact Kd.C_foot_own (IsS106.apart (show IsS106 w _ g293 t291 t292 from by repeat (first | (with_reducible first | exact HI293.out | apply IsS106.alloc | apply IsS106.drewN | apply IsS106.drew | apply IsS106.set_1 | refine IsS106.far ?_ NB293_290.out _) | exact HI293.out)) (by (with_reducible repeat (first | apply Kd.R_alloc | apply Kd.R_drewN | apply Kd.R_drew)); exact HO296.out) u39_) (fun _ h_ => h_.2)); (case side4 => exact (Kd.R_reads' HO296.out).2.1); rintro e w9 ⟨v299, rfl, ho0, hi, hb, hk⟩; refine ⟨_, rfl, ?_⟩; have n0_ := Aside0.mk (KeepBut.blk hk (g' := gb290) (o := .cells #[.string (⟨#[]⟩ : ByteArray), .slice none 0 0] 37 (0, 0)) u95_ NB290_293.out u89_); have n1_ := Aside0.mk (Kd.R_mono (Kd.R_keep (IsS106.apart (show IsS106 w _ g293 t291 t292 from by repeat (first | (with_reducible first | exact HI293.out | apply IsS106.alloc | apply IsS106.drewN | apply IsS106.drew | apply IsS106.set_1 | refine IsS106.far ?_ NB293_290.out _) | exact HI293.out)) (by (with_reducible repeat (first | apply Kd.R_alloc | apply Kd.R_drewN | apply Kd.R_drew)); exact HO296.out) u39_) hk (fun _ h => h.2)) (fun _ h => h.1)); have n2_ := Aside0.mk (Kd.R_lower ho0 (below_size u88_)); have n3_ := Aside0.mk (hb); have n4_ := Aside0.mk (hi); clear BK290; clear HO296; clear HB; clear HI293; have BK290 := n0_; have HO296 := n1_; have HO300 := n2_; have HB := n3_; have HI293 := n4_; clear n0_ n1_ n2_ n3_ n4_; (try clear hb); (try clear hb2); (try clear hk); (try clear hi); (try clear ho0); have hnb10 := NB290_293.out; have hnc10 := NB293_290.out; have hcz11_0 : w9.cell? ⟨gb290, 0, none⟩ = some (.string (⟨#[]⟩ : ByteArray)) := (blk_cell BK290.out 0).trans rfl; have hcz11_1 : w9.cell? ⟨gb290, 1, none⟩ = some (.slice none 0 0) := (blk_cell BK290.out 1).trans rfl; have hfz11_0 := blk_frozen BK290.out 0; have hfz11_1 := blk_frozen BK290.out 1; obtain ⟨Ao12, co12, eo12⟩ := Kd.R_slice HO300.out; subst eo12))
 refine bodyPost_ret (results_cell_row rfl _ _ gb290 37 #[.string t297, .slice Ao12 t298.length co12] (0, 0) _ rfl (by (with_reducible repeat (first | refine blk_drewN ?_ _ | refine blk_drew ?_ | refine blk_alloc ?_ _)); refine blk_put (cs := #[.string t297, .slice none 0 0]) ?_ 1 _ rfl; (with_reducible repeat (first | refine blk_drewN ?_ _ | refine blk_drew ?_ | refine blk_alloc ?_ _)); refine blk_put (cs := #[.string (⟨#[]⟩ : ByteArray), .slice none 0 0]) ?_ 0 _ rfl; (with_reducible repeat (first | refine blk_drewN ?_ _ | refine blk_drew ?_ | refine blk_alloc ?_ _)); exact BK290.out) Tryd.underlying37 rfl u17_) rfl ?_
 exact ⟨_, u7_, by (with_reducible repeat (first | apply Kd.R_alloc | apply Kd.R_drewN | apply Kd.R_drew)); exact Kd.R_mono (Kd.R_far (p := ⟨gb290, 1, none⟩) (Kd.R_far (p := ⟨gb290, 0, none⟩) (Kd.R_types HO300.out BK290.out u39_) (fun _ hk => hk.2) (.string t297)) (fun _ hk => hk.2) (.slice Ao12 t298.length co12)) (fun _ hk => trivial), u88_⟩

end Go.Proofs.YtglcgkbecfmegaaDoor.PFnDoc
