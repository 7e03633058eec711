/- Contracts of Go functions that the law FnDocOk reaches: each is told as a plain Lean function, with the walk that shows it; no condition beyond what each states. Written by a program of this session round the kit's printer. -/
import Derived.Test.YtelcdhjdlgedeaaDoorVPFnDocOkx0
import Derived.Test.YtelcdhjdlgedeaaDoorVPFnDocOkx1
import Derived.Test.YtelcdhjdlgedeaaDoorVPFnDocOkx2
namespace Go.Proofs.YtelcdhjdlgedeaaDoor.PFnDocOk
open Go.RowKit Go.Proofs.YtelcdhjdlgedeaaDoorW.PrintWords Go.Proofs.YtelcdhjdlgedeaaDoorW.PrintLast Go.Proofs.YtelcdhjdlgedeaaDoorW.PrintMore
attribute [local go_sem] run_str_geq run_str_leq max2_int min2_int max_two min_two max_three min_three max_four min_four   -- for this text's walks alone
set_option linter.unusedVariables false
set_option linter.unusedSimpArgs false

/-! ### spec_l1Many: function 112 -/
def spec_l1Many.l0 : Nat → ByteArray → Int → ByteArray → Option (ByteArray)
 | 0, _, _, _ => none
 | k + 1, x0, x1, x5 => if x1 > 0 then (if (Int.tmod x1 2) = 1 then (if x5.size + x0.size ≤ 9223372036854775807 then (if x0.size + x0.size ≤ 9223372036854775807 then (spec_l1Many.l0 k (x0 ++ x0) (wrap64 (Int.tdiv x1 2)) (x5 ++ x0)) else (none)) else (none)) else (if x0.size + x0.size ≤ 9223372036854775807 then (spec_l1Many.l0 k (x0 ++ x0) (wrap64 (Int.tdiv x1 2)) x5) else (none))) else (some x5)
def spec_l1Many.f (k : Nat) (a0 : ByteArray) (a1 : Int) : Option (ByteArray) := spec_l1Many.l0 k a0 a1 (⟨#[]⟩ : ByteArray)
theorem spec_l1Many.mono_l : ∀ k, (∀ y0 y1 y2, LeO (spec_l1Many.l0 k y0 y1 y2) (spec_l1Many.l0 (k + 1) y0 y1 y2))
 | 0 => fun _ _ _ r h => by simp [spec_l1Many.l0] at h
 | k + 1 => by
  have ih0 := spec_l1Many.mono_l k
  ·intro y0 y1 y2; unfold spec_l1Many.l0
   repeat' first
   | (with_reducible exact ih0 _ _ _)
   | (with_reducible exact LeO.refl _)
   | (with_reducible exact LeO.none _)
   | (with_reducible refine LeO.ite ?_ ?_)
   | (with_reducible refine LeO.bind ?_ (fun _ => ?_))
   | exact ih0 _ _ _
   | exact LeO.none _
   | refine LeO.ite ?_ ?_
   | refine LeO.bind ?_ (fun _ => ?_)
theorem spec_l1Many.mono : ∀ a0 a1 k, LeO (spec_l1Many.f k a0 a1) (spec_l1Many.f (k + 1) a0 a1) := by
 intro a0 a1 k; have ih0 := spec_l1Many.mono_l k; unfold spec_l1Many.f
 repeat' first
   | (with_reducible exact ih0 _ _ _)
   | (with_reducible exact LeO.refl _)
   | (with_reducible exact LeO.none _)
   | (with_reducible refine LeO.ite ?_ ?_)
   | (with_reducible refine LeO.bind ?_ (fun _ => ?_))
   | exact ih0 _ _ _
   | exact LeO.none _
   | refine LeO.ite ?_ ?_
   | refine LeO.bind ?_ (fun _ => ?_)
set_option maxHeartbeats 8000000 in
set_option maxRecDepth 100000 in
theorem spec_l1Many.calls (k : Nat) (a0 : ByteArray) (a1 : Int) (r : ByteArray) (w : World) (h : spec_l1Many.f k a0 a1 = some r) :
  Calls Tryd.prog 112 #[.string a0, .int .i64 a1] w fun e w' => e = .returned (.string r) ∧ Drawn0 w w' := by
 have H : (spec_l1Many.l0 k a0 a1 (⟨#[]⟩ : ByteArray)) = some r := h; clear h; have H' := am_ H; clear H; go_enter Tryd.func112, Tryd.ntmps112
 go_wp2; go_loopg [0, 1, 5] k (fun kq v0 v1 v5 w' => ∃ (x0_1 : ByteArray) (x1_1 : Int) (x5_1 : ByteArray), v0 = .string x0_1 ∧ v1 = .int .i64 x1_1 ∧ v5 = .string x5_1 ∧ Aside0 (spec_l1Many.l0 kq x0_1 x1_1 x5_1 = some r) ∧ Aside0 (kq ≤ k) ∧ Drawn0 w w')
 case atStart => exact ⟨(a0), (a1), ((⟨#[]⟩ : ByteArray)), u35_, u35_, u35_, H', ⟨Nat.le_refl _⟩, u41_⟩
 case round =>
  clear H'; try clear c1
  try clear p2
  obtain ⟨x0_1, x1_1, x5_1, rfl, rfl, rfl, HA, HK1, ⟨m1, rfl⟩⟩ := hrel; cases gk with
  | zero => exact absurd HA.out (by simp [spec_l1Many.l0])
  | succ k1 =>
   have H := HA.out; clear HA; simp only [spec_l1Many.l0] at H; by_cases c3 : x1_1 > 0
   ·rw [if_pos c3] at H; have c3b0 : decide (0 < x1_1) = true := decide_eq_true c3; clear c3; by_cases c4 : (Int.tmod x1_1 2) = 1
    ·rw [if_pos c4] at H; have c4b0 : ((Int.tmod x1_1 2) == 1) = true := beq_iff_eq.mpr c4; have c4b1 : ((Int.tmod x1_1 2) != 1) = false := bne_eq_false_iff_eq.mpr c4; clear c4; by_cases c5 : x5_1.size + x0_1.size ≤ 9223372036854775807
     ·rw [if_pos c5] at H; have c5b0 := eq_true c5; have c5b1 : decide (x5_1.size + x0_1.size ≤ 9223372036854775807) = true := decide_eq_true c5; try have c5b2 : (9223372036854775807 < x5_1.size + x0_1.size) = False := eq_false (Nat.not_lt.2 c5)
      by_cases c6 : x0_1.size + x0_1.size ≤ 9223372036854775807
      ·rw [if_pos c6] at H; have c6b0 := eq_true c6; have c6b1 : decide (x0_1.size + x0_1.size ≤ 9223372036854775807) = true := decide_eq_true c6; try have c6b2 : (9223372036854775807 < x0_1.size + x0_1.size) = False := eq_false (Nat.not_lt.2 c6)
       have H' := am_ H; clear H; go_wp2; go_roundg k1
       case measure => have := HK1.out; omega
       case rel => exact ⟨(x0_1 ++ x0_1), (wrap64 (Int.tdiv x1_1 2)), (x5_1 ++ x0_1), u35_, u35_, u35_, H', ⟨u131_⟩, u41_⟩
      ·exact u244_
     ·exact u235_
    ·rw [if_neg c4] at H; have c4b0 : ((Int.tmod x1_1 2) == 1) = false := beq_eq_false_iff_ne.mpr c4; have c4b1 : ((Int.tmod x1_1 2) != 1) = true := bne_iff_ne.mpr c4; by_cases c7 : x0_1.size + x0_1.size ≤ 9223372036854775807
     ·rw [if_pos c7] at H; have c7b0 := eq_true c7; have c7b1 : decide (x0_1.size + x0_1.size ≤ 9223372036854775807) = true := decide_eq_true c7; try have c7b2 : (9223372036854775807 < x0_1.size + x0_1.size) = False := eq_false (Nat.not_lt.2 c7)
      have H' := am_ H; clear H; go_wp2; go_roundg k1
      case measure => have := HK1.out; omega
      case rel => exact ⟨(x0_1 ++ x0_1), (wrap64 (Int.tdiv x1_1 2)), (x5_1), u35_, u35_, u35_, H', ⟨u131_⟩, u41_⟩
     ·exact u250_
   ·rw [if_neg c3] at H; have c3b0 : decide (0 < x1_1) = false := decide_eq_false c3; clear c3; obtain rfl := Option.some.inj H; go_wp2; go_ret
    exact ⟨u45_, u41_⟩

/-! ### spec_l11AnyText: function 88 -/
def spec_l11AnyText.f (k : Nat) (s0_0 : List Int) (s0_1 : Int) : Option (ByteArray × Int) := (spec_l1Rd_pick.f k s0_0 s0_1 14).bind fun bt210 => (if bt210.1 = 0 then ((spec_l1Rd_pick.f k s0_0 bt210.2 2).bind fun bt212 => ((spec_l1Many.f k (⟨#[120]⟩ : ByteArray) (wrap64 (60 + bt212.1))).bind fun t214 => (some (t214, bt212.2)))) else (if bt210.1 = 1 then ((spec_l11Text.f k s0_0 bt210.2).bind fun bt215 => ((spec_l1Rd_of.f k s0_0 bt215.2 (([(⟨#[10]⟩ : ByteArray), (⟨#[1]⟩ : ByteArray), (⟨#[127]⟩ : ByteArray)] : List ByteArray))).bind fun bt220 => (if bt215.1.size + bt220.1.size ≤ 9223372036854775807 then (some (bt215.1 ++ bt220.1, bt220.2)) else (none)))) else ((spec_l11Text.f k s0_0 bt210.2).bind fun bt222 => (some (bt222.1, bt222.2)))))
theorem spec_l11AnyText.mono : ∀ a0 a1 k, LeO (spec_l11AnyText.f k a0 a1) (spec_l11AnyText.f (k + 1) a0 a1) := by
 intro a0 a1 k; unfold spec_l11AnyText.f
 repeat' first
   | (with_reducible exact spec_l11Text.mono _ _ _)
   | (with_reducible exact spec_l1Many.mono _ _ _)
   | (with_reducible exact spec_l1Rd_of.mono _ _ _ _)
   | (with_reducible exact spec_l1Rd_pick.mono _ _ _ _)
   | (with_reducible exact LeO.refl _)
   | (with_reducible exact LeO.none _)
   | (with_reducible refine LeO.ite ?_ ?_)
   | (with_reducible refine LeO.bind ?_ (fun _ => ?_))
   | exact spec_l11Text.mono _ _ _
   | exact spec_l1Many.mono _ _ _
   | exact spec_l1Rd_of.mono _ _ _ _
   | exact spec_l1Rd_pick.mono _ _ _ _
   | exact LeO.none _
   | refine LeO.ite ?_ ?_
   | refine LeO.bind ?_ (fun _ => ?_)
set_option maxHeartbeats 8000000 in
set_option maxRecDepth 100000 in
theorem spec_l11AnyText.calls (k : Nat) (g : Nat) (s0_0 : List Int) (s0_1 : Int) (r1 : ByteArray) (r2 : Int) (w0 w : World) (hI : IsS99 w0 w g s0_0 s0_1) (hB : Below w0.heap.size w0 w) (h : spec_l11AnyText.f k s0_0 s0_1 = some (r1, r2)) :
  Calls Tryd.prog 88 #[.pointer (some ⟨g, 0, none⟩)] w fun e w' => e = .returned (.string r1) ∧ IsS99 w0 w' g s0_0 r2 ∧ Below w0.heap.size w0 w' ∧ KeepBut w w' g none := by
 have HI0 := am_ hI; have HK := am_ (KeepBut.refl w g none); have HL := am_ hB.size; clear hI; have HW0 := am_ hB.size; have HB := am_ hB; clear hB; have H : ((spec_l1Rd_pick.f k s0_0 s0_1 14).bind fun bt210 => (if bt210.1 = 0 then ((spec_l1Rd_pick.f k s0_0 bt210.2 2).bind fun bt212 => ((spec_l1Many.f k (⟨#[120]⟩ : ByteArray) (wrap64 (60 + bt212.1))).bind fun t214 => (some (t214, bt212.2)))) else (if bt210.1 = 1 then ((spec_l11Text.f k s0_0 bt210.2).bind fun bt215 => ((spec_l1Rd_of.f k s0_0 bt215.2 (([(⟨#[10]⟩ : ByteArray), (⟨#[1]⟩ : ByteArray), (⟨#[127]⟩ : ByteArray)] : List ByteArray))).bind fun bt220 => (if bt215.1.size + bt220.1.size ≤ 9223372036854775807 then (some (bt215.1 ++ bt220.1, bt220.2)) else (none)))) else ((spec_l11Text.f k s0_0 bt210.2).bind fun bt222 => (some (bt222.1, bt222.2)))))) = some (r1, r2) := h; clear h; replace H := Option.bind_eq_some_iff.mp H; obtain ⟨⟨t210, t211⟩, A20, H⟩ := H; replace H : (if t210 = 0 then ((spec_l1Rd_pick.f k s0_0 t211 2).bind fun bt212 => ((spec_l1Many.f k (⟨#[120]⟩ : ByteArray) (wrap64 (60 + bt212.1))).bind fun t214 => (some (t214, bt212.2)))) else (if t210 = 1 then ((spec_l11Text.f k s0_0 t211).bind fun bt215 => ((spec_l1Rd_of.f k s0_0 bt215.2 (([(⟨#[10]⟩ : ByteArray), (⟨#[1]⟩ : ByteArray), (⟨#[127]⟩ : ByteArray)] : List ByteArray))).bind fun bt220 => (if bt215.1.size + bt220.1.size ≤ 9223372036854775807 then (some (bt215.1 ++ bt220.1, bt220.2)) else (none)))) else ((spec_l11Text.f k s0_0 t211).bind fun bt222 => (some (bt222.1, bt222.2))))) = some (r1, r2) := H; have A2 := am_ A20; clear A20; by_cases c3 : t210 = 0
 ·rw [if_pos c3] at H; have c3b0 : (t210 == 0) = true := beq_iff_eq.mpr c3; have c3b1 : (t210 != 0) = false := bne_eq_false_iff_eq.mpr c3; clear c3; replace H := Option.bind_eq_some_iff.mp H; obtain ⟨⟨t212, t213⟩, A40, H⟩ := H; replace H : ((spec_l1Many.f k (⟨#[120]⟩ : ByteArray) (wrap64 (60 + t212))).bind fun t214 => (some (t214, t213))) = some (r1, r2) := H; have A4 := am_ A40; clear A40; replace H := Option.bind_eq_some_iff.mp H; obtain ⟨t214, A50, H⟩ := H; replace H : (some (t214, t213)) = some (r1, r2) := H; have A5 := am_ A50; clear A50; simp only [Option.some.injEq, Prod.mk.injEq] at H; obtain ⟨rfl, rfl⟩ := H; go_enter Tryd.func88, Tryd.ntmps88
  go_wp2_with (first | ((with_reducible refine gate_callee (f := 78) rfl ?_); refine goesL_ (some 4) rfl rfl Tryd.func78 u23_ rfl #[.pointer (some ⟨g, 0, none⟩), .int .i64 14] rfl u1_ ?_; (with_reducible refine (spec_l1Rd_pick.calls k g s0_0 s0_1 14 t210 t211 w0 _ ?side1 ?side2 A2.out).mono ?_); (case side1 => exact u34_); (case side2 => exact u31_); rintro e w6 ⟨rfl, hi, hb, hk⟩; refine ⟨_, rfl, ?_⟩; replace HK := am_ (KeepBut.trans u3_ hk (.inl rfl)); replace HB := am_ (hb); replace HI0 := am_ (hi); (try clear hb); (try clear hb2); (try clear hk); (try clear hi)) | ((with_reducible refine gate_callee (f := 78) rfl ?_); refine goesL_ (some 8) rfl rfl Tryd.func78 u23_ rfl #[.pointer (some ⟨g, 0, none⟩), .int .i64 2] rfl u1_ ?_; (with_reducible refine (spec_l1Rd_pick.calls k g s0_0 t211 2 t212 t213 w0 _ ?side1 ?side2 A4.out).mono ?_); (case side1 => exact u34_); (case side2 => exact u31_); rintro e w7 ⟨rfl, hi, hb, hk⟩; refine ⟨_, rfl, ?_⟩; replace HK := am_ (KeepBut.trans u3_ hk (.inl rfl)); replace HB := am_ (hb); replace HI0 := am_ (hi); (try clear hb); (try clear hb2); (try clear hk); (try clear hi)) | ((with_reducible refine gate_callee (f := 112) rfl ?_); refine goesL_ (some 10) rfl rfl Tryd.func112 u23_ rfl #[.string (⟨#[120]⟩ : ByteArray), .int .i64 (wrap64 (60 + t212))] rfl u1_ ?_; (with_reducible refine (spec_l1Many.calls k (⟨#[120]⟩ : ByteArray) (wrap64 (60 + t212)) t214 _ A5.out).mono ?_); rintro e w' ⟨rfl, ⟨nd, rfl⟩⟩; refine ⟨_, rfl, ?_⟩))
  go_ret
  exact ⟨u6_, u4_, u10_, u3_⟩
 ·rw [if_neg c3] at H; have c3b0 : (t210 == 0) = false := beq_eq_false_iff_ne.mpr c3; have c3b1 : (t210 != 0) = true := bne_iff_ne.mpr c3; by_cases c8 : t210 = 1
  ·rw [if_pos c8] at H; have c8b0 : (t210 == 1) = true := beq_iff_eq.mpr c8; have c8b1 : (t210 != 1) = false := bne_eq_false_iff_eq.mpr c8; clear c8; replace H := Option.bind_eq_some_iff.mp H; obtain ⟨⟨t215, t216⟩, A90, H⟩ := H; replace H : ((spec_l1Rd_of.f k s0_0 t216 (([(⟨#[10]⟩ : ByteArray), (⟨#[1]⟩ : ByteArray), (⟨#[127]⟩ : ByteArray)] : List ByteArray))).bind fun bt220 => (if t215.size + bt220.1.size ≤ 9223372036854775807 then (some (t215 ++ bt220.1, bt220.2)) else (none))) = some (r1, r2) := H; have A9 := am_ A90; clear A90; obtain ⟨y217, hy217⟩ : ∃ y_ : List ByteArray, y_ = (([(⟨#[10]⟩ : ByteArray), (⟨#[1]⟩ : ByteArray), (⟨#[127]⟩ : ByteArray)] : List ByteArray)) := ⟨_, rfl⟩; replace H : ((spec_l1Rd_of.f k s0_0 t216 y217).bind fun bt220 => (if t215.size + bt220.1.size ≤ 9223372036854775807 then (some (t215 ++ bt220.1, bt220.2)) else (none))) = some (r1, r2) := by first | (rw [hy217]; with_reducible exact H) | (have H2_ := (Option.bind_some _ _).symm.trans H; rw [hy217]; with_reducible exact H2_) | (have H2_ := (Option.bind_some _ _).symm.trans H; with_reducible exact H2_) | with_reducible exact H | (rw [hy217]; exact H) | exact H
   have Ny217 := am_ hy217; clear hy217; replace H := Option.bind_eq_some_iff.mp H; obtain ⟨⟨t220, t221⟩, A100, H⟩ := H; replace H : (if t215.size + t220.size ≤ 9223372036854775807 then (some (t215 ++ t220, t221)) else (none)) = some (r1, r2) := H; have A10 := am_ A100; clear A100; by_cases c11 : t215.size + t220.size ≤ 9223372036854775807
   ·rw [if_pos c11] at H; have c11b0 := eq_true c11; have c11b1 : decide (t215.size + t220.size ≤ 9223372036854775807) = true := decide_eq_true c11; try have c11b2 : (9223372036854775807 < t215.size + t220.size) = False := eq_false (Nat.not_lt.2 c11)
    simp only [Option.some.injEq, Prod.mk.injEq] at H; obtain ⟨rfl, rfl⟩ := H; go_enter Tryd.func88, Tryd.ntmps88
    go_wp2_with (first | ((with_reducible refine gate_callee (f := 78) rfl ?_); refine goesL_ (some 4) rfl rfl Tryd.func78 u23_ rfl #[.pointer (some ⟨g, 0, none⟩), .int .i64 14] rfl u1_ ?_; (with_reducible refine (spec_l1Rd_pick.calls k g s0_0 s0_1 14 t210 t211 w0 _ ?side1 ?side2 A2.out).mono ?_); (case side1 => exact u34_); (case side2 => exact u31_); rintro e w12 ⟨rfl, hi, hb, hk⟩; refine ⟨_, rfl, ?_⟩; replace HK := am_ (KeepBut.trans u3_ hk (.inl rfl)); replace HB := am_ (hb); replace HI0 := am_ (hi); (try clear hb); (try clear hb2); (try clear hk); (try clear hi)) | ((with_reducible refine gate_callee (f := 111) rfl ?_); refine goesL_ (some 14) rfl rfl Tryd.func111 u23_ rfl #[.pointer (some ⟨g, 0, none⟩)] rfl u1_ ?_; (with_reducible refine (spec_l11Text.calls k g s0_0 t211 t215 t216 w0 _ ?side1 ?side2 A9.out).mono ?_); (case side1 => exact u34_); (case side2 => exact u31_); rintro e w13 ⟨rfl, hi, hb, hk⟩; refine ⟨_, rfl, ?_⟩; replace HK := am_ (KeepBut.trans u3_ hk (.inl rfl)); replace HB := am_ (hb); replace HI0 := am_ (hi); (try clear hb); (try clear hb2); (try clear hk); (try clear hi)) | ((with_reducible refine gate_dst (N := 16) rfl ?_); refine Kd.R_lit Kd.string _ 9 ?hg (N := 16) ?hd (xs := ([(⟨#[10]⟩ : ByteArray), (⟨#[1]⟩ : ByteArray), (⟨#[127]⟩ : ByteArray)] : List ByteArray)) (inner := [.string (⟨#[10]⟩ : ByteArray), .string (⟨#[1]⟩ : ByteArray), .string (⟨#[127]⟩ : ByteArray)]) (ok := fun _ => True) (okp := fun _ => True) ?hr ?hp (fun _ hk => hk) trivial (Below.refl _ _) (Nat.le_refl _) u99_ ?_; (case hd => rfl); (case hg => rfl); (case hr => exact u33_); (case hp => exact (Reps.one (show Kd.M Kd.string _ _ _ (⟨#[10]⟩ : ByteArray) [.string (⟨#[10]⟩ : ByteArray)] from rfl) (Reps.one (show Kd.M Kd.string _ _ _ (⟨#[1]⟩ : ByteArray) [.string (⟨#[1]⟩ : ByteArray)] from rfl) (Reps.one (show Kd.M Kd.string _ _ _ (⟨#[127]⟩ : ByteArray) [.string (⟨#[127]⟩ : ByteArray)] from rfl) (Reps.none _ _))))); intro v218 w14 ho15 hb hg_ hnew_; clear hg_ hnew_; (first | rw [← Ny217.out] at ho15 | (simp only [Int.reduceToNat] at ho15; rw [← Ny217.out] at ho15)); have HO219 := am_ (Kd.R_lower ho15 (keep_size (w := w) (g := g) (row := none) u3_)); replace HK := am_ (KeepBut.trans u3_ (KeepBut.of_below hb g none) (.inl rfl)); replace HB := am_ (below_step u10_ hb); replace HI0 := am_ (IsS99.below u4_ hb); clear hb ho15; obtain ⟨Ao16, co16, eo16⟩ := Kd.R_slice HO219.out; subst eo16) | ((with_reducible refine gate_callee (f := 84) rfl ?_); refine goesL_ (some 17) rfl rfl Tryd.func84 u23_ rfl #[.pointer (some ⟨g, 0, none⟩), .slice Ao16 y217.length co16] rfl u1_ ?_; (with_reducible refine (spec_l1Rd_of.calls k g s0_0 t216 _ _ y217 t220 t221 w0 _ ?side1 ?side2 ?side3 ?side4 ?side5 A10.out).mono ?_); (case side1 => exact u34_); (case side2 => exact u31_); (case side3 => repeat (first | exact (Kd.R_reads' HO219.out).2.2 | (with_reducible refine Kd.C_alloc ?_ _) | (with_reducible refine Kd.C_drewN ?_ _) | (with_reducible refine Kd.C_drew ?_))); (case side4 => exact (Kd.R_reads' HO219.out).2.1); (case side5 => exact far_slice (IsS99.own_ne HI0.out HO219.out u52_)); rintro e w17 ⟨rfl, hi, hb, hk⟩; refine ⟨_, rfl, ?_⟩; replace HO219 := am_ (Kd.R_mono (Kd.R_keep (IsS99.apart (show IsS99 w0 _ g s0_0 t216 from u4_) (by (with_reducible repeat (first | apply Kd.R_alloc | apply Kd.R_drewN | apply Kd.R_drew)); exact HO219.out) u52_) hk (fun _ h => h.2)) (fun _ h => h.1)); replace HK := am_ (KeepBut.trans u3_ hk (.inl rfl)); replace HB := am_ (hb); replace HI0 := am_ (hi); (try clear hb); (try clear hb2); (try clear hk); (try clear hi)))
    go_ret
    exact ⟨u6_, u4_, u10_, u3_⟩
   ·exact u243_
  ·rw [if_neg c8] at H; have c8b0 : (t210 == 1) = false := beq_eq_false_iff_ne.mpr c8; have c8b1 : (t210 != 1) = true := bne_iff_ne.mpr c8; replace H := Option.bind_eq_some_iff.mp H; obtain ⟨⟨t222, t223⟩, A180, H⟩ := H; replace H : (some (t222, t223)) = some (r1, r2) := H; have A18 := am_ A180; clear A180; simp only [Option.some.injEq, Prod.mk.injEq] at H; obtain ⟨rfl, rfl⟩ := H; go_enter Tryd.func88, Tryd.ntmps88
   go_wp2_with (first | ((with_reducible refine gate_callee (f := 78) rfl ?_); refine goesL_ (some 4) rfl rfl Tryd.func78 u23_ rfl #[.pointer (some ⟨g, 0, none⟩), .int .i64 14] rfl u1_ ?_; (with_reducible refine (spec_l1Rd_pick.calls k g s0_0 s0_1 14 t210 t211 w0 _ ?side1 ?side2 A2.out).mono ?_); (case side1 => exact u34_); (case side2 => exact u31_); rintro e w19 ⟨rfl, hi, hb, hk⟩; refine ⟨_, rfl, ?_⟩; replace HK := am_ (KeepBut.trans u3_ hk (.inl rfl)); replace HB := am_ (hb); replace HI0 := am_ (hi); (try clear hb); (try clear hb2); (try clear hk); (try clear hi)) | ((with_reducible refine gate_callee (f := 111) rfl ?_); refine goesL_ (some 20) rfl rfl Tryd.func111 u23_ rfl #[.pointer (some ⟨g, 0, none⟩)] rfl u1_ ?_; (with_reducible refine (spec_l11Text.calls k g s0_0 t211 t222 t223 w0 _ ?side1 ?side2 A18.out).mono ?_); (case side1 => exact u34_); (case side2 => exact u31_); rintro e w20 ⟨rfl, hi, hb, hk⟩; refine ⟨_, rfl, ?_⟩; replace HK := am_ (KeepBut.trans u3_ hk (.inl rfl)); replace HB := am_ (hb); replace HI0 := am_ (hi); (try clear hb); (try clear hb2); (try clear hk); (try clear hi)))
   go_ret
   exact ⟨u6_, u4_, u10_, u3_⟩

end Go.Proofs.YtelcdhjdlgedeaaDoor.PFnDocOk
