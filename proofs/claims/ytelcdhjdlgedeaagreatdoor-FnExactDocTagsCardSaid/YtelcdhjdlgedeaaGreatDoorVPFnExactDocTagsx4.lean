/- Contracts of Go functions that the law FnExactDocTags reaches: each is told as a plain Lean function, with the walk that shows it; no condition beyond what each states. Written by a program of this session round the kit's printer. -/
import Derived.Test.YtelcdhjdlgedeaaGreatDoorVPFnExactDocTagsx0
import Derived.Test.YtelcdhjdlgedeaaGreatDoorVPFnExactDocTagsx1
import Derived.Test.YtelcdhjdlgedeaaGreatDoorVPFnExactDocTagsx2
import Derived.Test.YtelcdhjdlgedeaaGreatDoorVPFnExactDocTagsx3
namespace Go.Proofs.YtelcdhjdlgedeaaGreatDoor.PFnExactDocTags
open Go.RowKit Go.Proofs.YtelcdhjdlgedeaaGreatDoorW.PrintWords Go.Proofs.YtelcdhjdlgedeaaGreatDoorW.PrintLast Go.Proofs.YtelcdhjdlgedeaaGreatDoorW.PrintMore
attribute [local go_sem] run_str_geq run_str_leq max2_int min2_int max_two min_two max_three min_three max_four min_four   -- for this text's walks alone
set_option linter.unusedVariables false
set_option linter.unusedSimpArgs false

/-! ### spec_l2Tags: function 41 -/
def spec_l2Tags.l0 : Nat → List ByteArray → List ByteArray → Int → Option (List ByteArray × Bool)
 | 0, _, _, _ => none
 | k + 1, x4, x5, x6 => if x6 < (x5.length : Int) then (if 0 ≤ x6 then ((spec_NameOk.f k (rdOf ByteArray.empty x5 x6)).bind fun t189 => (if t189 = true then ((spec_l2Add.f k x4 (rdOf ByteArray.empty x5 x6)).bind fun t191 => (spec_l2Tags.l0 k t191 x5 (wrap64 (x6 + 1)))) else (some ((([] : List ByteArray)), false)))) else (none)) else (some (x4, decide ((x5.length : Int) ≤ 4)))
def spec_l2Tags.f (k : Nat) (a0 : ByteArray) : Option (List ByteArray × Bool) := (spec_l1Cut.f k a0 44 (wrap64 ((a0.size : Int) + 1))).bind fun t185 => (spec_l2Tags.l0 k (([] : List ByteArray)) t185 0)
theorem spec_l2Tags.mono_l : ∀ k, (∀ y0 y1 y2, LeO (spec_l2Tags.l0 k y0 y1 y2) (spec_l2Tags.l0 (k + 1) y0 y1 y2))
 | 0 => fun _ _ _ r h => by simp [spec_l2Tags.l0] at h
 | k + 1 => by
  have ih0 := spec_l2Tags.mono_l k
  ·intro y0 y1 y2; unfold spec_l2Tags.l0
   repeat' first
   | (with_reducible exact ih0 _ _ _)
   | (with_reducible exact spec_NameOk.mono _ _)
   | (with_reducible exact spec_l1Cut.mono _ _ _ _)
   | (with_reducible exact spec_l2Add.mono _ _ _)
   | (with_reducible exact LeO.refl _)
   | (with_reducible exact LeO.none _)
   | (with_reducible refine LeO.ite ?_ ?_)
   | (with_reducible refine LeO.bind ?_ (fun _ => ?_))
   | exact ih0 _ _ _
   | exact spec_NameOk.mono _ _
   | exact spec_l1Cut.mono _ _ _ _
   | exact spec_l2Add.mono _ _ _
   | exact LeO.none _
   | refine LeO.ite ?_ ?_
   | refine LeO.bind ?_ (fun _ => ?_)
theorem spec_l2Tags.mono : ∀ a0 k, LeO (spec_l2Tags.f k a0) (spec_l2Tags.f (k + 1) a0) := by
 intro a0 k; have ih0 := spec_l2Tags.mono_l k; unfold spec_l2Tags.f
 repeat' first
   | (with_reducible exact ih0 _ _ _)
   | (with_reducible exact spec_NameOk.mono _ _)
   | (with_reducible exact spec_l1Cut.mono _ _ _ _)
   | (with_reducible exact spec_l2Add.mono _ _ _)
   | (with_reducible exact LeO.refl _)
   | (with_reducible exact LeO.none _)
   | (with_reducible refine LeO.ite ?_ ?_)
   | (with_reducible refine LeO.bind ?_ (fun _ => ?_))
   | exact ih0 _ _ _
   | exact spec_NameOk.mono _ _
   | exact spec_l1Cut.mono _ _ _ _
   | exact spec_l2Add.mono _ _ _
   | exact LeO.none _
   | refine LeO.ite ?_ ?_
   | refine LeO.bind ?_ (fun _ => ?_)
set_option maxHeartbeats 8000000 in
set_option maxRecDepth 100000 in
theorem spec_l2Tags.calls (k : Nat) (a0 : ByteArray) (r1 : List ByteArray) (r2 : Bool) (w : World) (h : spec_l2Tags.f k a0 = some (r1, r2)) :
  Calls Tryz.prog 41 #[.string a0] w fun e w' => ∃ v0_ : Value, e = .returned (.tuple #[v0_, .bool r2]) ∧ Kd.R Kd.string 9 w' w.heap.size (fun _ => True) v0_ r1 ∧ Below w.heap.size w w' := by
 have HB := am_ (Below.refl w.heap.size w); have H : ((spec_l1Cut.f k a0 44 (wrap64 ((a0.size : Int) + 1))).bind fun t185 => (spec_l2Tags.l0 k (([] : List ByteArray)) t185 0)) = some (r1, r2) := h; clear h; obtain ⟨y182, hy182⟩ : ∃ y_ : List ByteArray, y_ = (([] : List ByteArray)) := ⟨_, rfl⟩; replace H : ((spec_l1Cut.f k a0 44 (wrap64 ((a0.size : Int) + 1))).bind fun t185 => (spec_l2Tags.l0 k y182 t185 0)) = some (r1, r2) := by first | (rw [hy182]; with_reducible exact H) | (have H2_ := (Option.bind_some _ _).symm.trans H; rw [hy182]; with_reducible exact H2_) | (have H2_ := (Option.bind_some _ _).symm.trans H; with_reducible exact H2_) | with_reducible exact H | (rw [hy182]; exact H) | exact H
 have Ny182 := am_ hy182; clear hy182; replace H := Option.bind_eq_some_iff.mp H; obtain ⟨t185, A20, H⟩ := H; replace H : (spec_l2Tags.l0 k y182 t185 0) = some (r1, r2) := H; have A2 := am_ A20; clear A20; have H' := am_ H; clear H; go_enter Tryz.func41, Tryz.ntmps41
 go_wp2_with (first | ((with_reducible refine gate_dst (N := 7) rfl ?_); refine Kd.R_lit Kd.string _ 9 ?hg (N := 7) ?hd (xs := ([] : List ByteArray)) (inner := []) (ok := fun _ => True) (okp := fun _ => True) ?hr ?hp (fun _ hk => hk) trivial (Below.refl _ _) (Nat.le_refl _) u91_ ?_; (case hd => rfl); (case hg => rfl); (case hr => first | (go_simp; done) | (go_simp; rfl)); (case hp => exact (Reps.none _ _)); intro v183 w3 ho4 hb hg_ hnew_; clear hg_ hnew_; (first | rw [← Ny182.out] at ho4 | (simp only [Int.reduceToNat] at ho4; rw [← Ny182.out] at ho4)); have HO184 := am_ (Kd.R_lower ho4 (below_size u0_)); replace HB := am_ (below_step u0_ hb); clear hb ho4) | ((with_reducible refine gate_callee (f := 75) rfl ?_); refine goesL_ (some 12) rfl rfl Tryz.func75 u8_ rfl #[.string a0, .int .u8 44, .int .i64 (wrap64 ((a0.size : Int) + 1))] rfl u2_ ?_; (with_reducible refine (spec_l1Cut.calls k a0 44 (wrap64 ((a0.size : Int) + 1)) t185 _ A2.out).mono ?_); rintro e w5 ⟨v186, rfl, ho0, hb⟩; refine ⟨_, rfl, ?_⟩; have HO187 := am_ (Kd.R_lower (Kd.R_new' ho0 (Kd.R_lt u145_)) (below_size u0_)); replace HO184 := am_ (Kd.R_elder' u145_ (Kd.R_base ho0) hb); replace HB := am_ (below_step u0_ hb); (try clear hb); (try clear hb2); (try clear hk); (try clear hi); (try clear ho0)))
 go_loopg [4, 6] k (fun kq v4 v6 w' => ∃ (x4_1 : List ByteArray) (x6_1 : Int), v6 = .int .i64 x6_1 ∧ Aside0 (spec_l2Tags.l0 kq x4_1 t185 x6_1 = some (r1, r2)) ∧ Aside0 (kq ≤ k) ∧ Aside0 (Kd.R Kd.string 9 w' w.heap.size (fun k_ => some k_ ≠ (v186 : Value).ownBlock) v4 x4_1) ∧ Aside0 (Kd.R Kd.string 9 w' w.heap.size (fun k_ => some k_ ≠ (v4 : Value).ownBlock) v186 t185) ∧ Aside0 (Below w.heap.size w w'))
 case atStart => exact ⟨(y182), (0), u15_, H', ⟨Nat.le_refl _⟩, ⟨by (with_reducible repeat (first | apply Kd.R_alloc | apply Kd.R_drewN | apply Kd.R_drew)); exact Kd.R_mono HO184.out (fun _ hk => hk.2)⟩, ⟨by (with_reducible repeat (first | apply Kd.R_alloc | apply Kd.R_drewN | apply Kd.R_drew)); exact Kd.R_mono HO187.out (fun _ hk => hk.2)⟩, ⟨u0_⟩⟩
 case round =>
  clear H'; try clear p2
  try clear c4
  obtain ⟨x4_1, x6_1, rfl, HA, HK1, HO_4, HO_5, HB⟩ := hrel; cases gk with
  | zero => exact absurd HA.out (by simp [spec_l2Tags.l0])
  | succ k1 =>
   have H := HA.out; clear HA; simp only [spec_l2Tags.l0] at H; by_cases c6 : x6_1 < (t185.length : Int)
   ·rw [if_pos c6] at H; have c6b0 : decide (x6_1 < (t185.length : Int)) = true := decide_eq_true c6; clear c6; by_cases c7 : 0 ≤ x6_1
    ·rw [if_pos c7] at H; have c7b0 : decide (0 ≤ x6_1) = true := decide_eq_true c7; clear c7; replace H := Option.bind_eq_some_iff.mp H; obtain ⟨t189, A80, H⟩ := H; replace H : (if t189 = true then ((spec_l2Add.f k1 x4_1 (rdOf ByteArray.empty t185 x6_1)).bind fun t191 => (spec_l2Tags.l0 k1 t191 t185 (wrap64 (x6_1 + 1)))) else (some ((([] : List ByteArray)), false))) = some (r1, r2) := H; have A8 := am_ A80; clear A80; by_cases c9 : t189 = true
     ·subst c9; have H1 : ((spec_l2Add.f k1 x4_1 (rdOf ByteArray.empty t185 x6_1)).bind fun t191 => (spec_l2Tags.l0 k1 t191 t185 (wrap64 (x6_1 + 1)))) = some (r1, r2) := by rw [if_pos rfl] at H; exact H
      clear H; have H := H1; clear H1; replace H := Option.bind_eq_some_iff.mp H; obtain ⟨t191, A100, H⟩ := H; replace H : (spec_l2Tags.l0 k1 t191 t185 (wrap64 (x6_1 + 1))) = some (r1, r2) := H; have A10 := am_ A100; clear A100; have H' := am_ H; clear H; obtain ⟨Ao11, co11, eo11⟩ := Kd.R_slice HO_5.out; subst eo11; have p188 : 0 ≤ (x6_1 : Int) := of_decide_eq_true u4_; have q188 : x6_1 < (t185.length : Int) := of_decide_eq_true u4_; obtain ⟨ad188, e188, hx188_0⟩ := Kd.at_string (Kd.R_reads' HO_5.out).2.2 x6_1 p188 q188; cases e188; replace p188 := eq_true p188; replace q188 := eq_true q188; go_wp2_with (first | ((with_reducible refine gate_callee (f := 56) rfl ?_); refine goesL_ (some 23) rfl rfl Tryz.func56 u8_ rfl #[.string (rdOf ByteArray.empty t185 x6_1)] rfl u2_ ?_; (with_reducible refine (spec_NameOk.calls k1 (rdOf ByteArray.empty t185 x6_1) true _ A8.out).mono ?_); rintro e w' ⟨rfl, ⟨nd, rfl⟩⟩; refine ⟨_, rfl, ?_⟩; have p190 : 0 ≤ (x6_1 : Int) := of_decide_eq_true u4_; have q190 : x6_1 < (t185.length : Int) := of_decide_eq_true u4_; obtain ⟨ad190, e190, hx190_0⟩ := Kd.at_string (Kd.R_reads' HO_5.out).2.2 x6_1 p190 q190; obtain rfl : ad188 = ad190 := (by injection e190); replace p190 := eq_true p190; replace q190 := eq_true q190; obtain ⟨Ao12, co12, eo12⟩ := Kd.R_slice HO_4.out; subst eo12) | ((with_reducible refine gate_callee (f := 76) rfl ?_); refine goesL_ (some 31) rfl rfl Tryz.func76 u8_ rfl #[.slice Ao12 x4_1.length co12, .string (rdOf ByteArray.empty t185 x6_1)] rfl u2_ ?_; (with_reducible refine (spec_l2Add.calls k1 (fun k_ => some k_ = (.slice Ao12 x4_1.length co12 : Value).ownBlock) (.slice Ao12 x4_1.length co12) x4_1 (rdOf ByteArray.empty t185 x6_1) t191 w _ ?side1 ?side2 A10.out).mono ?_); (case side1 => repeat (first | (with_reducible first | exact HB.out | apply below_alloc | apply pw_below_drewN | apply below_drew1) | exact HB.out)); (case side2 => exact Kd.R_tight rfl HO_4.out); rintro e w13 ⟨v192, rfl, ho0, hb, hkp⟩; refine ⟨_, rfl, ?_⟩; have HO193 := am_ (Kd.R_mono (ok' := fun k_ => some k_ ≠ (.slice (some ad188) t185.length co11 : Value).ownBlock) ho0 (fun k_ hk_ => Or.elim hk_ (fun hs_ => fun e_ => (((HO_5.out).1 k_ e_.symm)) hs_) (fun hn_ => (Kd.fresh' (Kd.R_lt u102_) k_ hn_)))); replace HO_5 := am_ (Kd.R_mono (ok' := fun k_ => some k_ ≠ (v192 : Value).ownBlock) (Kd.R_keptB (HO_5.out) hkp (fun k_ hk_ hs_ => (hk_) hs_)) (fun k_ hk_ => fun e_ => Or.elim (ho0.1 k_ e_.symm) (fun hs_ => hk_.2.1 hs_) (fun hn_ => Nat.not_le.2 hk_.2.2 hn_))); replace HB := am_ (hb); clear HO_4; (try clear hb); (try clear hkp); (try clear ho0)))
      go_roundg k1
      case measure => have := HK1.out; omega
      case rel => exact ⟨(t191), (wrap64 (x6_1 + 1)), u15_, H', ⟨u70_⟩, ⟨by (with_reducible repeat (first | apply Kd.R_alloc | apply Kd.R_drewN | apply Kd.R_drew)); exact HO193.out⟩, ⟨u102_⟩, ⟨u0_⟩⟩
     ·replace c9 := Bool.eq_false_iff.mpr c9; subst c9; have H1 : (some ((([] : List ByteArray)), false)) = some (r1, r2) := by rw [if_neg (show ¬ (false = true) by decide)] at H; exact H
      clear H; have H := H1; clear H1; obtain ⟨y194, hy194⟩ : ∃ y_ : List ByteArray, y_ = (([] : List ByteArray)) := ⟨_, rfl⟩; replace H : (some (y194, false)) = some (r1, r2) := by first | (rw [hy194]; with_reducible exact H) | (have H2_ := (Option.bind_some _ _).symm.trans H; rw [hy194]; with_reducible exact H2_) | (have H2_ := (Option.bind_some _ _).symm.trans H; with_reducible exact H2_) | with_reducible exact H | (rw [hy194]; exact H) | exact H
      have Ny194 := am_ hy194; clear hy194; simp only [Option.some.injEq, Prod.mk.injEq] at H; obtain ⟨rfl, rfl⟩ := H; obtain ⟨Ao14, co14, eo14⟩ := Kd.R_slice HO_5.out; subst eo14; have p188 : 0 ≤ (x6_1 : Int) := of_decide_eq_true u4_; have q188 : x6_1 < (t185.length : Int) := of_decide_eq_true u4_; obtain ⟨ad188, e188, hx188_0⟩ := Kd.at_string (Kd.R_reads' HO_5.out).2.2 x6_1 p188 q188; cases e188; replace p188 := eq_true p188; replace q188 := eq_true q188; go_wp2_with (first | ((with_reducible refine gate_callee (f := 56) rfl ?_); refine goesL_ (some 23) rfl rfl Tryz.func56 u8_ rfl #[.string (rdOf ByteArray.empty t185 x6_1)] rfl u2_ ?_; (with_reducible refine (spec_NameOk.calls k1 (rdOf ByteArray.empty t185 x6_1) false _ A8.out).mono ?_); rintro e w' ⟨rfl, ⟨nd, rfl⟩⟩; refine ⟨_, rfl, ?_⟩) | ((with_reducible refine gate_dst (N := 25) rfl ?_); refine Kd.R_lit Kd.string _ 9 ?hg (N := 25) ?hd (xs := ([] : List ByteArray)) (inner := []) (ok := fun _ => True) (okp := fun _ => True) ?hr ?hp (fun _ hk => hk) trivial (Below.refl _ _) (Nat.le_refl _) u91_ ?_; (case hd => rfl); (case hg => rfl); (case hr => first | (go_simp; done) | (go_simp; rfl)); (case hp => exact (Reps.none _ _)); intro v195 w15 ho16 hb hg_ hnew_; clear hg_ hnew_; (first | rw [← Ny194.out] at ho16 | (simp only [Int.reduceToNat] at ho16; rw [← Ny194.out] at ho16)); have HO196 := am_ (Kd.R_lower (Kd.R_new' (Kd.R_new' ho16 (Kd.R_lt u152_)) (Kd.R_lt u102_)) (below_size u0_)); replace HO_4 := am_ (Kd.R_elder' u152_ (Kd.R_base ho16) hb); replace HO_5 := am_ (Kd.R_elder' u102_ (Kd.R_base ho16) hb); replace HB := am_ (below_step u0_ hb); clear hb ho16))
      go_ret2
      exact ⟨_, u5_, by (with_reducible repeat (first | apply Kd.R_alloc | apply Kd.R_drewN | apply Kd.R_drew)); exact Kd.R_mono HO196.out (fun _ hk => trivial), u0_⟩
    ·exact u170_
   ·rw [if_neg c6] at H; have c6b0 : decide (x6_1 < (t185.length : Int)) = false := decide_eq_false c6; clear c6; simp only [Option.some.injEq, Prod.mk.injEq] at H; obtain ⟨rfl, rfl⟩ := H; obtain ⟨Ao17, co17, eo17⟩ := Kd.R_slice HO_5.out; subst eo17; go_wp2; go_ret2
    exact ⟨_, u5_, by (with_reducible repeat (first | apply Kd.R_alloc | apply Kd.R_drewN | apply Kd.R_drew)); exact Kd.R_mono HO_4.out (fun _ hk => trivial), u0_⟩

/-! ### spec_l1Figures: function 117 -/
def spec_l1Figures.l0 : Nat → ByteArray → Int → Int → Option (Int)
 | 0, _, _, _ => none
 | k + 1, x0, x3, x4 => if x4 < (x0.size : Int) then (if 0 ≤ x4 then (if (bt x0 x4) < 48 then (some (-1)) else (if (bt x0 x4) > 57 then (some (-1)) else (if x4 ≥ 9 then (some (-1)) else (spec_l1Figures.l0 k x0 (wrap64 ((wrap64 (x3 * 10)) + (((bt x0 x4) - 48) % 256))) (wrap64 (x4 + 1)))))) else (none)) else (if (x0.size : Int) = 0 then (some (-1)) else (if (x0.size : Int) > 1 then (if 0 < (x0.size : Int) then (if (bt x0 0) = 48 then (some (-1)) else (some x3)) else (none)) else (some x3)))
def spec_l1Figures.f (k : Nat) (a0 : ByteArray) : Option (Int) := spec_l1Figures.l0 k a0 0 0
theorem spec_l1Figures.mono_l : ∀ k, (∀ y0 y1 y2, LeO (spec_l1Figures.l0 k y0 y1 y2) (spec_l1Figures.l0 (k + 1) y0 y1 y2))
 | 0 => fun _ _ _ r h => by simp [spec_l1Figures.l0] at h
 | k + 1 => by
  have ih0 := spec_l1Figures.mono_l k
  ·intro y0 y1 y2; unfold spec_l1Figures.l0
   repeat' first
   | (with_reducible exact ih0 _ _ _)
   | (with_reducible exact LeO.refl _)
   | (with_reducible exact LeO.none _)
   | (with_reducible refine LeO.ite ?_ ?_)
   | (with_reducible refine LeO.bind ?_ (fun _ => ?_))
   | exact ih0 _ _ _
   | exact LeO.none _
   | refine LeO.ite ?_ ?_
   | refine LeO.bind ?_ (fun _ => ?_)
theorem spec_l1Figures.mono : ∀ a0 k, LeO (spec_l1Figures.f k a0) (spec_l1Figures.f (k + 1) a0) := by
 intro a0 k; have ih0 := spec_l1Figures.mono_l k; unfold spec_l1Figures.f
 repeat' first
   | (with_reducible exact ih0 _ _ _)
   | (with_reducible exact LeO.refl _)
   | (with_reducible exact LeO.none _)
   | (with_reducible refine LeO.ite ?_ ?_)
   | (with_reducible refine LeO.bind ?_ (fun _ => ?_))
   | exact ih0 _ _ _
   | exact LeO.none _
   | refine LeO.ite ?_ ?_
   | refine LeO.bind ?_ (fun _ => ?_)
set_option maxHeartbeats 8000000 in
set_option maxRecDepth 100000 in
theorem spec_l1Figures.calls (k : Nat) (a0 : ByteArray) (r : Int) (w : World) (h : spec_l1Figures.f k a0 = some r) :
  Calls Tryz.prog 117 #[.string a0] w fun e w' => e = .returned (.int .i64 r) ∧ Drawn0 w w' := by
 have H : (spec_l1Figures.l0 k a0 0 0) = some r := h; clear h; have H' := am_ H; clear H; go_enter Tryz.func117, Tryz.ntmps117
 go_wp2; go_loopg [3, 4] k (fun kq v3 v4 w' => ∃ (x3_1 : Int) (x4_1 : Int), v3 = .int .i64 x3_1 ∧ v4 = .int .i64 x4_1 ∧ Aside0 (spec_l1Figures.l0 kq a0 x3_1 x4_1 = some r) ∧ Aside0 (kq ≤ k) ∧ Drawn0 w w')
 case atStart => exact ⟨(0), (0), u15_, u15_, H', ⟨Nat.le_refl _⟩, u20_⟩
 case round =>
  clear H'; try clear c1
  obtain ⟨x3_1, x4_1, rfl, rfl, HA, HK1, ⟨m1, rfl⟩⟩ := hrel; cases gk with
  | zero => exact absurd HA.out (by simp [spec_l1Figures.l0])
  | succ k1 =>
   have H := HA.out; clear HA; simp only [spec_l1Figures.l0] at H; by_cases c2 : x4_1 < (a0.size : Int)
   ·rw [if_pos c2] at H; have c2b0 : decide (x4_1 < (a0.size : Int)) = true := decide_eq_true c2; clear c2; by_cases c3 : 0 ≤ x4_1
    ·rw [if_pos c3] at H; have c3b0 : decide (0 ≤ x4_1) = true := decide_eq_true c3; clear c3; by_cases c5 : (bt a0 x4_1) < 48
     ·rw [if_pos c5] at H; have c5b0 : decide ((bt a0 x4_1) < 48) = true := decide_eq_true c5; clear c5; obtain rfl := Option.some.inj H; have p4 : 0 ≤ (x4_1 : Int) := of_decide_eq_true u4_; have q4 : x4_1 < (a0.size : Int) := of_decide_eq_true u4_; have hx4 := bt_at a0 x4_1; replace p4 := eq_true p4; replace q4 := eq_true q4; go_wp2; go_ret
      exact ⟨u25_, u20_⟩
     ·rw [if_neg c5] at H; have c5b0 : decide ((bt a0 x4_1) < 48) = false := decide_eq_false c5; clear c5; by_cases c7 : (bt a0 x4_1) > 57
      ·rw [if_pos c7] at H; have c7b0 : decide (57 < (bt a0 x4_1)) = true := decide_eq_true c7; clear c7; obtain rfl := Option.some.inj H; have p4 : 0 ≤ (x4_1 : Int) := of_decide_eq_true u4_; have q4 : x4_1 < (a0.size : Int) := of_decide_eq_true u4_; have hx4 := bt_at a0 x4_1; replace p4 := eq_true p4; replace q4 := eq_true q4; have p6 : 0 ≤ (x4_1 : Int) := of_decide_eq_true u4_; have q6 : x4_1 < (a0.size : Int) := of_decide_eq_true u4_; have hx6 := bt_at a0 x4_1; replace p6 := eq_true p6; replace q6 := eq_true q6; go_wp2; go_ret
       exact ⟨u25_, u20_⟩
      ·rw [if_neg c7] at H; have c7b0 : decide (57 < (bt a0 x4_1)) = false := decide_eq_false c7; clear c7; by_cases c8 : x4_1 ≥ 9
       ·rw [if_pos c8] at H; have c8b0 : decide (9 ≤ x4_1) = true := decide_eq_true c8; clear c8; obtain rfl := Option.some.inj H; have p4 : 0 ≤ (x4_1 : Int) := of_decide_eq_true u4_; have q4 : x4_1 < (a0.size : Int) := of_decide_eq_true u4_; have hx4 := bt_at a0 x4_1; replace p4 := eq_true p4; replace q4 := eq_true q4; have p6 : 0 ≤ (x4_1 : Int) := of_decide_eq_true u4_; have q6 : x4_1 < (a0.size : Int) := of_decide_eq_true u4_; have hx6 := bt_at a0 x4_1; replace p6 := eq_true p6; replace q6 := eq_true q6; go_wp2; go_ret
        exact ⟨u25_, u20_⟩
       ·rw [if_neg c8] at H; have c8b0 : decide (9 ≤ x4_1) = false := decide_eq_false c8; clear c8; have H' := am_ H; clear H; have p4 : 0 ≤ (x4_1 : Int) := of_decide_eq_true u4_; have q4 : x4_1 < (a0.size : Int) := of_decide_eq_true u4_; have hx4 := bt_at a0 x4_1; replace p4 := eq_true p4; replace q4 := eq_true q4; have p6 : 0 ≤ (x4_1 : Int) := of_decide_eq_true u4_; have q6 : x4_1 < (a0.size : Int) := of_decide_eq_true u4_; have hx6 := bt_at a0 x4_1; replace p6 := eq_true p6; replace q6 := eq_true q6; have p9 : 0 ≤ (x4_1 : Int) := of_decide_eq_true u4_; have q9 : x4_1 < (a0.size : Int) := of_decide_eq_true u4_; have hx9 := bt_at a0 x4_1; replace p9 := eq_true p9; replace q9 := eq_true q9; go_wp2; go_roundg k1
        case measure => have := HK1.out; omega
        case rel => exact ⟨(wrap64 ((wrap64 (x3_1 * 10)) + (((bt a0 x4_1) - 48) % 256))), (wrap64 (x4_1 + 1)), u15_, u15_, H', ⟨u70_⟩, u20_⟩
    ·exact u169_
   ·rw [if_neg c2] at H; have c2b0 : decide (x4_1 < (a0.size : Int)) = false := decide_eq_false c2; clear c2; by_cases c10 : (a0.size : Int) = 0
    ·rw [if_pos c10] at H; have c10b0 : ((a0.size : Int) == 0) = true := beq_iff_eq.mpr c10; have c10b1 : ((a0.size : Int) != 0) = false := bne_eq_false_iff_eq.mpr c10; clear c10; obtain rfl := Option.some.inj H; go_wp2; go_ret
     exact ⟨u25_, u20_⟩
    ·rw [if_neg c10] at H; have c10b0 : ((a0.size : Int) == 0) = false := beq_eq_false_iff_ne.mpr c10; have c10b1 : ((a0.size : Int) != 0) = true := bne_iff_ne.mpr c10; by_cases c11 : (a0.size : Int) > 1
     ·rw [if_pos c11] at H; have c11b0 : decide (1 < (a0.size : Int)) = true := decide_eq_true c11; have c11b1 : decide (1 < a0.size) = true := decide_eq_true u110_; clear c11; by_cases c12 : 0 < (a0.size : Int)
      ·rw [if_pos c12] at H; have c12b0 : decide (0 < (a0.size : Int)) = true := decide_eq_true c12; have c12b1 : decide (0 < a0.size) = true := decide_eq_true u110_; clear c12; by_cases c14 : (bt a0 0) = 48
       ·rw [if_pos c14] at H; have c14b0 : ((bt a0 0) == 48) = true := beq_iff_eq.mpr c14; have c14b1 : ((bt a0 0) != 48) = false := bne_eq_false_iff_eq.mpr c14; clear c14; obtain rfl := Option.some.inj H; have p13 : 0 ≤ (0 : Int) := u110_; have q13 : 0 < a0.size := (by have : (0 : Int) < (a0.size : Int) := of_decide_eq_true u4_; omega); have hx13 : ∀ h : 0 < a0.size, ((a0[0]'h).toNat : Int) = bt a0 0 := bt_at a0 0; clear p13; have qi13 : (0 < (a0.size : Int)) = True := eq_true (of_decide_eq_true u4_); replace q13 := eq_true q13; go_wp2; go_ret
        exact ⟨u25_, u20_⟩
       ·rw [if_neg c14] at H; have c14b0 : ((bt a0 0) == 48) = false := beq_eq_false_iff_ne.mpr c14; have c14b1 : ((bt a0 0) != 48) = true := bne_iff_ne.mpr c14; obtain rfl := Option.some.inj H; have p13 : 0 ≤ (0 : Int) := u110_; have q13 : 0 < a0.size := (by have : (0 : Int) < (a0.size : Int) := of_decide_eq_true u4_; omega); have hx13 : ∀ h : 0 < a0.size, ((a0[0]'h).toNat : Int) = bt a0 0 := bt_at a0 0; clear p13; have qi13 : (0 < (a0.size : Int)) = True := eq_true (of_decide_eq_true u4_); replace q13 := eq_true q13; go_wp2; go_ret
        exact ⟨u25_, u20_⟩
      ·rw [if_neg c12] at H; exact absurd H u91_
     ·rw [if_neg c11] at H; have c11b0 : decide (1 < (a0.size : Int)) = false := decide_eq_false c11; have c11b1 : decide (1 < a0.size) = false := decide_eq_false u110_; clear c11; obtain rfl := Option.some.inj H; go_wp2; go_ret
      exact ⟨u25_, u20_⟩

/-! ### spec_l1Number: function 95 -/
def spec_l1Number.j0 : Nat → ByteArray → Bool → Option (Int × Bool)
 | 0, _, _ => none
 | k + 1, x0, x13 => if x13 = true then (if 1 ≤ (x0.size : Int) then ((spec_l1Figures.f k (x0.extract 1 x0.size)).bind fun t197 => (some (wrap64 (-t197), decide (t197 > 0)))) else (none)) else ((spec_l1Figures.f k x0).bind fun t198 => (some (t198, decide (t198 ≥ 0))))
def spec_l1Number.f (k : Nat) (a0 : ByteArray) : Option (Int × Bool) := if (a0.size : Int) > 1 then (if 0 < (a0.size : Int) then (spec_l1Number.j0 k a0 ((bt a0 0) == 45)) else (none)) else (spec_l1Number.j0 k a0 false)
theorem spec_l1Number.mono_l : ∀ k, (∀ y0 y1, LeO (spec_l1Number.j0 k y0 y1) (spec_l1Number.j0 (k + 1) y0 y1))
 | 0 => fun _ _ r h => by simp [spec_l1Number.j0] at h
 | k + 1 => by
  have ih0 := spec_l1Number.mono_l k
  ·intro y0 y1; unfold spec_l1Number.j0
   repeat' first
   | (with_reducible exact ih0 _ _)
   | (with_reducible exact spec_l1Figures.mono _ _)
   | (with_reducible exact LeO.refl _)
   | (with_reducible exact LeO.none _)
   | (with_reducible refine LeO.ite ?_ ?_)
   | (with_reducible refine LeO.bind ?_ (fun _ => ?_))
   | exact ih0 _ _
   | exact spec_l1Figures.mono _ _
   | exact LeO.none _
   | refine LeO.ite ?_ ?_
   | refine LeO.bind ?_ (fun _ => ?_)
theorem spec_l1Number.mono : ∀ a0 k, LeO (spec_l1Number.f k a0) (spec_l1Number.f (k + 1) a0) := by
 intro a0 k; have ih0 := spec_l1Number.mono_l k; unfold spec_l1Number.f
 repeat' first
   | (with_reducible exact ih0 _ _)
   | (with_reducible exact spec_l1Figures.mono _ _)
   | (with_reducible exact LeO.refl _)
   | (with_reducible exact LeO.none _)
   | (with_reducible refine LeO.ite ?_ ?_)
   | (with_reducible refine LeO.bind ?_ (fun _ => ?_))
   | exact ih0 _ _
   | exact spec_l1Figures.mono _ _
   | exact LeO.none _
   | refine LeO.ite ?_ ?_
   | refine LeO.bind ?_ (fun _ => ?_)
set_option maxHeartbeats 8000000 in
set_option maxRecDepth 100000 in
theorem spec_l1Number.calls (k : Nat) (a0 : ByteArray) (r1 : Int) (r2 : Bool) (w : World) (h : spec_l1Number.f k a0 = some (r1, r2)) :
  Calls Tryz.prog 95 #[.string a0] w fun e w' => e = .returned (.tuple #[.int .i64 r1, .bool r2]) ∧ Drawn0 w w' := by
 have H : (if (a0.size : Int) > 1 then (if 0 < (a0.size : Int) then (spec_l1Number.j0 k a0 ((bt a0 0) == 45)) else (none)) else (spec_l1Number.j0 k a0 false)) = some (r1, r2) := h; clear h; have HC2 := am_ H; clear H; go_enter Tryz.func95, Tryz.ntmps95
 go_upto_region 1 with (fail)
 go_cut [13] (fun v13 wc => ∃ (kq : Nat) (x13_1 : Bool), v13 = .bool x13_1 ∧ Aside0 (spec_l1Number.j0 kq a0 x13_1 = some (r1, r2)) ∧ Aside0 (kq ≤ k) ∧ Drawn0 w wc)
 case first =>
  have H := HC2.out; clear HC2; by_cases c3 : (a0.size : Int) > 1
  ·rw [if_pos c3] at H; have c3b0 : decide (1 < (a0.size : Int)) = true := decide_eq_true c3; have c3b1 : decide (1 < a0.size) = true := decide_eq_true u110_; clear c3; (first | rw [c3b0] | (simp only [i64_w, i32_w]; rw [c3b0]) | skip)
   by_cases c4 : 0 < (a0.size : Int)
   ·rw [if_pos c4] at H; have c4b0 : decide (0 < (a0.size : Int)) = true := decide_eq_true c4; have c4b1 : decide (0 < a0.size) = true := decide_eq_true u110_; clear c4; have H' := am_ H; clear H; have p5 : 0 ≤ (0 : Int) := u110_; have q5 : 0 < a0.size := (by have : (0 : Int) < (a0.size : Int) := of_decide_eq_true u4_; omega); have hx5 : ∀ h : 0 < a0.size, ((a0[0]'h).toNat : Int) = bt a0 0 := bt_at a0 0; clear p5; have qi5 : (0 < (a0.size : Int)) = True := eq_true (of_decide_eq_true u4_); replace q5 := eq_true q5; go_wp2; go_meet
    case rel => exact ⟨_, (((bt a0 0) == 45)), u15_, H', ⟨u117_⟩, u20_⟩
   ·exact u167_
  ·rw [if_neg c3] at H; have c3b0 : decide (1 < (a0.size : Int)) = false := decide_eq_false c3; have c3b1 : decide (1 < a0.size) = false := decide_eq_false u110_; clear c3; (first | rw [c3b0] | (simp only [i64_w, i32_w]; rw [c3b0]) | skip)
   have H' := am_ H; clear H; go_wp2; go_meet
   case rel => exact ⟨_, (false), u15_, H', ⟨u117_⟩, u20_⟩
 case rest =>
  clear HC2; try clear p2
  try clear c3
  try clear c3b0
  try clear c3b1
  try clear c4
  try clear c4b0
  try clear c4b1
  try clear p5
  try clear q5
  try clear hx5
  try clear qi5
  try clear p5
  try clear q5
  obtain ⟨kq, x13_1, rfl, HA, HJ1, ⟨mc1, rfl⟩⟩ := hcut; cases kq with
  | zero => exact absurd HA.out (by simp [spec_l1Number.j0])
  | succ kj1 =>
   have H := HA.out; clear HA; simp only [spec_l1Number.j0] at H; by_cases c6 : x13_1 = true
   ·subst c6; have H1 : (if 1 ≤ (a0.size : Int) then ((spec_l1Figures.f kj1 (a0.extract 1 a0.size)).bind fun t197 => (some (wrap64 (-t197), decide (t197 > 0)))) else (none)) = some (r1, r2) := by rw [if_pos rfl] at H; exact H
    clear H; have H := H1; clear H1; by_cases c7 : 1 ≤ (a0.size : Int)
    ·rw [if_pos c7] at H; have c7b0 := eq_true c7; have c7b1 : decide (1 ≤ (a0.size : Int)) = true := decide_eq_true c7; clear c7; replace H := Option.bind_eq_some_iff.mp H; obtain ⟨t197, A80, H⟩ := H; replace H : (some (wrap64 (-t197), decide (t197 > 0))) = some (r1, r2) := H; have A8 := am_ A80; clear A80; simp only [Option.some.injEq, Prod.mk.injEq] at H; obtain ⟨rfl, rfl⟩ := H; go_wp2_with (first | ((with_reducible refine gate_callee (f := 117) rfl ?_); refine goesL_ (some 16) rfl rfl Tryz.func117 u8_ rfl #[.string (a0.extract 1 a0.size)] rfl u2_ ?_; (with_reducible refine (spec_l1Figures.calls kj1 (a0.extract 1 a0.size) t197 _ A8.out).mono ?_); rintro e w' ⟨rfl, ⟨nd, rfl⟩⟩; refine ⟨_, rfl, ?_⟩))
     go_ret2
     exact ⟨u25_, u20_⟩
    ·exact u170_
   ·replace c6 := Bool.eq_false_iff.mpr c6; subst c6; have H1 : ((spec_l1Figures.f kj1 a0).bind fun t198 => (some (t198, decide (t198 ≥ 0)))) = some (r1, r2) := by rw [if_neg (show ¬ (false = true) by decide)] at H; exact H
    clear H; have H := H1; clear H1; replace H := Option.bind_eq_some_iff.mp H; obtain ⟨t198, A90, H⟩ := H; replace H : (some (t198, decide (t198 ≥ 0))) = some (r1, r2) := H; have A9 := am_ A90; clear A90; simp only [Option.some.injEq, Prod.mk.injEq] at H; obtain ⟨rfl, rfl⟩ := H; go_wp2_with (first | ((with_reducible refine gate_callee (f := 117) rfl ?_); refine goesL_ (some 22) rfl rfl Tryz.func117 u8_ rfl #[.string a0] rfl u2_ ?_; (with_reducible refine (spec_l1Figures.calls kj1 a0 t198 _ A9.out).mono ?_); rintro e w' ⟨rfl, ⟨nd, rfl⟩⟩; refine ⟨_, rfl, ?_⟩))
    go_ret2
    exact ⟨u25_, u20_⟩

/-! ### spec_l2Text: function 96 -/
def spec_l2Text.l0 : Nat → ByteArray → Int → Option (Bool)
 | 0, _, _ => none
 | k + 1, x0, x3 => if x3 < (x0.size : Int) then (if 0 ≤ x3 then ((spec_l1In.f (wrap64 (bt x0 x3)) 32 126).bind fun t199 => (if t199 = true then (spec_l2Text.l0 k x0 (wrap64 (x3 + 1))) else (some false))) else (none)) else (some (decide ((x0.size : Int) ≤ 60)))
def spec_l2Text.f (k : Nat) (a0 : ByteArray) : Option (Bool) := spec_l2Text.l0 k a0 0
theorem spec_l2Text.mono_l : ∀ k, (∀ y0 y1, LeO (spec_l2Text.l0 k y0 y1) (spec_l2Text.l0 (k + 1) y0 y1))
 | 0 => fun _ _ r h => by simp [spec_l2Text.l0] at h
 | k + 1 => by
  have ih0 := spec_l2Text.mono_l k
  ·intro y0 y1; unfold spec_l2Text.l0
   repeat' first
   | (with_reducible exact ih0 _ _)
   | (with_reducible exact LeO.refl _)
   | (with_reducible exact LeO.none _)
   | (with_reducible refine LeO.ite ?_ ?_)
   | (with_reducible refine LeO.bind ?_ (fun _ => ?_))
   | exact ih0 _ _
   | exact LeO.none _
   | refine LeO.ite ?_ ?_
   | refine LeO.bind ?_ (fun _ => ?_)
theorem spec_l2Text.mono : ∀ a0 k, LeO (spec_l2Text.f k a0) (spec_l2Text.f (k + 1) a0) := by
 intro a0 k; have ih0 := spec_l2Text.mono_l k; unfold spec_l2Text.f
 repeat' first
   | (with_reducible exact ih0 _ _)
   | (with_reducible exact LeO.refl _)
   | (with_reducible exact LeO.none _)
   | (with_reducible refine LeO.ite ?_ ?_)
   | (with_reducible refine LeO.bind ?_ (fun _ => ?_))
   | exact ih0 _ _
   | exact LeO.none _
   | refine LeO.ite ?_ ?_
   | refine LeO.bind ?_ (fun _ => ?_)
set_option maxHeartbeats 8000000 in
set_option maxRecDepth 100000 in
theorem spec_l2Text.calls (k : Nat) (a0 : ByteArray) (r : Bool) (w : World) (h : spec_l2Text.f k a0 = some r) :
  Calls Tryz.prog 96 #[.string a0] w fun e w' => e = .returned (.bool r) ∧ Drawn0 w w' := by
 have H : (spec_l2Text.l0 k a0 0) = some r := h; clear h; have H' := am_ H; clear H; go_enter Tryz.func96, Tryz.ntmps96
 go_wp2; go_loopg [3] k (fun kq v3 w' => ∃ (x3_1 : Int), v3 = .int .i64 x3_1 ∧ Aside0 (spec_l2Text.l0 kq a0 x3_1 = some r) ∧ Aside0 (kq ≤ k) ∧ Drawn0 w w')
 case atStart => exact ⟨(0), u15_, H', ⟨Nat.le_refl _⟩, u20_⟩
 case round =>
  clear H'; obtain ⟨x3_1, rfl, HA, HK1, ⟨m1, rfl⟩⟩ := hrel; cases gk with
  | zero => exact absurd HA.out (by simp [spec_l2Text.l0])
  | succ k1 =>
   have H := HA.out; clear HA; simp only [spec_l2Text.l0] at H; by_cases c2 : x3_1 < (a0.size : Int)
   ·rw [if_pos c2] at H; have c2b0 : decide (x3_1 < (a0.size : Int)) = true := decide_eq_true c2; clear c2; by_cases c3 : 0 ≤ x3_1
    ·rw [if_pos c3] at H; have c3b0 : decide (0 ≤ x3_1) = true := decide_eq_true c3; clear c3; replace H := Option.bind_eq_some_iff.mp H; obtain ⟨t199, A50, H⟩ := H; replace H : (if t199 = true then (spec_l2Text.l0 k1 a0 (wrap64 (x3_1 + 1))) else (some false)) = some r := H; have A5 := am_ A50; clear A50; by_cases c6 : t199 = true
     ·subst c6; have H1 : (spec_l2Text.l0 k1 a0 (wrap64 (x3_1 + 1))) = some r := by rw [if_pos rfl] at H; exact H
      clear H; have H := H1; clear H1; have H' := am_ H; clear H; have p4 : 0 ≤ (x3_1 : Int) := of_decide_eq_true u4_; have q4 : x3_1 < (a0.size : Int) := of_decide_eq_true u4_; have hx4 := bt_at a0 x3_1; replace p4 := eq_true p4; replace q4 := eq_true q4; go_wp2_with (first | ((with_reducible refine gate_callee (f := 55) rfl ?_); refine goesL_ (some 14) rfl rfl Tryz.func55 u8_ rfl #[.int .i64 (wrap64 (bt a0 x3_1)), .int .i64 32, .int .i64 126] rfl u2_ ?_; (with_reducible refine (spec_l1In.calls (wrap64 (bt a0 x3_1)) 32 126 true _ A5.out).mono ?_); rintro e w' ⟨rfl, ⟨nd, rfl⟩⟩; refine ⟨_, rfl, ?_⟩))
      go_roundg k1
      case measure => have := HK1.out; omega
      case rel => exact ⟨(wrap64 (x3_1 + 1)), u15_, H', ⟨u70_⟩, u20_⟩
     ·replace c6 := Bool.eq_false_iff.mpr c6; subst c6; have H1 : (some false) = some r := by rw [if_neg (show ¬ (false = true) by decide)] at H; exact H
      clear H; have H := H1; clear H1; obtain rfl := Option.some.inj H; have p4 : 0 ≤ (x3_1 : Int) := of_decide_eq_true u4_; have q4 : x3_1 < (a0.size : Int) := of_decide_eq_true u4_; have hx4 := bt_at a0 x3_1; replace p4 := eq_true p4; replace q4 := eq_true q4; go_wp2_with (first | ((with_reducible refine gate_callee (f := 55) rfl ?_); refine goesL_ (some 14) rfl rfl Tryz.func55 u8_ rfl #[.int .i64 (wrap64 (bt a0 x3_1)), .int .i64 32, .int .i64 126] rfl u2_ ?_; (with_reducible refine (spec_l1In.calls (wrap64 (bt a0 x3_1)) 32 126 false _ A5.out).mono ?_); rintro e w' ⟨rfl, ⟨nd, rfl⟩⟩; refine ⟨_, rfl, ?_⟩))
      go_ret
      exact ⟨u25_, u20_⟩
    ·exact u169_
   ·rw [if_neg c2] at H; have c2b0 : decide (x3_1 < (a0.size : Int)) = false := decide_eq_false c2; clear c2; obtain rfl := Option.some.inj H; go_wp2; go_ret
    exact ⟨u25_, u20_⟩

/-! ### spec_l2Cell: function 73 -/
def spec_l2Cell.f (k : Nat) (a0_0 : ByteArray) (a0_1 : Int) (a0_2 : Int) (a1 : ByteArray) : Option (Bool) := (spec_l1Number.f k a1).bind fun bt201 => ((spec_l2Tags.f k a1).bind fun bt203 => ((spec_l2Text.f k a1).bind fun t207 => (if t207 = true then (if a0_1 = 1 then (some true) else (if a0_1 = 2 then (if bt201.2 = true then (some true) else (if a0_1 = 3 then (some bt203.2) else (some false))) else (if a0_1 = 3 then (some bt203.2) else (some false)))) else (some false))))
theorem spec_l2Cell.mono : ∀ a0 a1 a2 a3 k, LeO (spec_l2Cell.f k a0 a1 a2 a3) (spec_l2Cell.f (k + 1) a0 a1 a2 a3) := by
 intro a0 a1 a2 a3 k; unfold spec_l2Cell.f
 repeat' first
   | (with_reducible exact spec_l1Number.mono _ _)
   | (with_reducible exact spec_l2Tags.mono _ _)
   | (with_reducible exact spec_l2Text.mono _ _)
   | (with_reducible exact LeO.refl _)
   | (with_reducible exact LeO.none _)
   | (with_reducible refine LeO.ite ?_ ?_)
   | (with_reducible refine LeO.bind ?_ (fun _ => ?_))
   | exact spec_l1Number.mono _ _
   | exact spec_l2Tags.mono _ _
   | exact spec_l2Text.mono _ _
   | exact LeO.none _
   | refine LeO.ite ?_ ?_
   | refine LeO.bind ?_ (fun _ => ?_)
set_option maxHeartbeats 8000000 in
set_option maxRecDepth 100000 in
theorem spec_l2Cell.calls (k : Nat) (a0_0 : ByteArray) (a0_1 : Int) (a0_2 : Int) (a1 : ByteArray) (r : Bool) (w : World) (h : spec_l2Cell.f k a0_0 a0_1 a0_2 a1 = some r) :
  Calls Tryz.prog 73 #[.agg #[.string a0_0, .int .i64 a0_1, .int .i64 a0_2], .string a1] w fun e w' => e = .returned (.bool r) ∧ Below w.heap.size w w' := by
 have hu79 := Tryz.underlying79; have HB := am_ (Below.refl w.heap.size w); have H : ((spec_l1Number.f k a1).bind fun bt201 => ((spec_l2Tags.f k a1).bind fun bt203 => ((spec_l2Text.f k a1).bind fun t207 => (if t207 = true then (if a0_1 = 1 then (some true) else (if a0_1 = 2 then (if bt201.2 = true then (some true) else (if a0_1 = 3 then (some bt203.2) else (some false))) else (if a0_1 = 3 then (some bt203.2) else (some false)))) else (some false))))) = some r := h; clear h; replace H := Option.bind_eq_some_iff.mp H; obtain ⟨⟨t201, t202⟩, A30, H⟩ := H; replace H : ((spec_l2Tags.f k a1).bind fun bt203 => ((spec_l2Text.f k a1).bind fun t207 => (if t207 = true then (if a0_1 = 1 then (some true) else (if a0_1 = 2 then (if t202 = true then (some true) else (if a0_1 = 3 then (some bt203.2) else (some false))) else (if a0_1 = 3 then (some bt203.2) else (some false)))) else (some false)))) = some r := H; have A3 := am_ A30; clear A30; replace H := Option.bind_eq_some_iff.mp H; obtain ⟨⟨t203, t204⟩, A40, H⟩ := H; replace H : ((spec_l2Text.f k a1).bind fun t207 => (if t207 = true then (if a0_1 = 1 then (some true) else (if a0_1 = 2 then (if t202 = true then (some true) else (if a0_1 = 3 then (some t204) else (some false))) else (if a0_1 = 3 then (some t204) else (some false)))) else (some false))) = some r := H; have A4 := am_ A40; clear A40; replace H := Option.bind_eq_some_iff.mp H; obtain ⟨t207, A50, H⟩ := H; replace H : (if t207 = true then (if a0_1 = 1 then (some true) else (if a0_1 = 2 then (if t202 = true then (some true) else (if a0_1 = 3 then (some t204) else (some false))) else (if a0_1 = 3 then (some t204) else (some false)))) else (some false)) = some r := H; have A5 := am_ A50; clear A50; by_cases c6 : t207 = true
 ·subst c6; have H1 : (if a0_1 = 1 then (some true) else (if a0_1 = 2 then (if t202 = true then (some true) else (if a0_1 = 3 then (some t204) else (some false))) else (if a0_1 = 3 then (some t204) else (some false)))) = some r := by rw [if_pos rfl] at H; exact H
  clear H; have H := H1; clear H1; by_cases c7 : a0_1 = 1
  ·rw [if_pos c7] at H; have c7b0 : (a0_1 == 1) = true := beq_iff_eq.mpr c7; have c7b1 : (a0_1 != 1) = false := bne_eq_false_iff_eq.mpr c7; clear c7; obtain rfl := Option.some.inj H; go_enter Tryz.func73, Tryz.ntmps73
   go_wp2_with (first | ((with_reducible refine gate_dst (N := 2) rfl ?_); refine box_event ?hg (N := 2) ?hd (cs := #[.string a0_0, .int .i64 a0_1, .int .i64 a0_2]) (t := 79) ?hr ?_; (case hd => rfl); (case hg => rfl); (case hr => first | (go_simp; done) | (go_simp; rfl)); intro gb200 hg w8 hbox hb; have BK200 := am_ (hbox); have GW200 := am_ ((by rw [hg]; exact (below_size u0_) : w.heap.size ≤ gb200)); have GE200 := GW200; replace HB := am_ (below_step u0_ hb); clear hb hbox hg) | ((with_reducible refine gate_callee (f := 95) rfl ?_); refine goesL_ (some 11) rfl rfl Tryz.func95 u8_ rfl #[.string a1] rfl u2_ ?_; (with_reducible refine (spec_l1Number.calls k a1 t201 t202 _ A3.out).mono ?_); rintro e w' ⟨rfl, ⟨nd, rfl⟩⟩; refine ⟨_, rfl, ?_⟩) | ((with_reducible refine gate_callee (f := 41) rfl ?_); refine goesL_ (some 16) rfl rfl Tryz.func41 u8_ rfl #[.string a1] rfl u2_ ?_; (with_reducible refine (spec_l2Tags.calls k a1 t203 t204 _ A4.out).mono ?_); rintro e w9 ⟨v205, rfl, ho0, hb⟩; refine ⟨_, rfl, ?_⟩; have HO206 := am_ (Kd.R_lower ho0 (below_size u21_)); replace BK200 := am_ (blk_below (g := gb200) (o := .cells #[.string a0_0, .int .i64 a0_1, .int .i64 a0_2] 79 (0, 0)) u71_ hb); replace HB := am_ (below_step u21_ hb); (try clear hb); (try clear hb2); (try clear hk); (try clear hi); (try clear ho0)) | ((with_reducible refine gate_callee (f := 96) rfl ?_); refine goesL_ (some 20) rfl rfl Tryz.func96 u8_ rfl #[.string a1] rfl u2_ ?_; (with_reducible refine (spec_l2Text.calls k a1 true _ A5.out).mono ?_); rintro e w' ⟨rfl, ⟨nd, rfl⟩⟩; refine ⟨_, rfl, ?_⟩; have hcz10_0 : w9.cell? ⟨gb200, 0, none⟩ = some (.string a0_0) := (blk_cell BK200.out 0).trans rfl; have hcz10_1 : w9.cell? ⟨gb200, 1, none⟩ = some (.int .i64 a0_1) := (blk_cell BK200.out 1).trans rfl; have hcz10_2 : w9.cell? ⟨gb200, 2, none⟩ = some (.int .i64 a0_2) := (blk_cell BK200.out 2).trans rfl; have hfz10_0 := blk_frozen BK200.out 0; have hfz10_1 := blk_frozen BK200.out 1; have hfz10_2 := blk_frozen BK200.out 2))
   go_ret
   exact ⟨u5_, u21_⟩
  ·rw [if_neg c7] at H; have c7b0 : (a0_1 == 1) = false := beq_eq_false_iff_ne.mpr c7; have c7b1 : (a0_1 != 1) = true := bne_iff_ne.mpr c7; by_cases c11 : a0_1 = 2
   ·rw [if_pos c11] at H; have c11b0 : (a0_1 == 2) = true := beq_iff_eq.mpr c11; have c11b1 : (a0_1 != 2) = false := bne_eq_false_iff_eq.mpr c11; clear c11; by_cases c12 : t202 = true
    ·subst c12; have H1 : (some true) = some r := by rw [if_pos rfl] at H; exact H
     clear H; have H := H1; clear H1; obtain rfl := Option.some.inj H; go_enter Tryz.func73, Tryz.ntmps73
     go_wp2_with (first | ((with_reducible refine gate_dst (N := 2) rfl ?_); refine box_event ?hg (N := 2) ?hd (cs := #[.string a0_0, .int .i64 a0_1, .int .i64 a0_2]) (t := 79) ?hr ?_; (case hd => rfl); (case hg => rfl); (case hr => first | (go_simp; done) | (go_simp; rfl)); intro gb200 hg w13 hbox hb; have BK200 := am_ (hbox); have GW200 := am_ ((by rw [hg]; exact (below_size u0_) : w.heap.size ≤ gb200)); have GE200 := GW200; replace HB := am_ (below_step u0_ hb); clear hb hbox hg) | ((with_reducible refine gate_callee (f := 95) rfl ?_); refine goesL_ (some 11) rfl rfl Tryz.func95 u8_ rfl #[.string a1] rfl u2_ ?_; (with_reducible refine (spec_l1Number.calls k a1 t201 true _ A3.out).mono ?_); rintro e w' ⟨rfl, ⟨nd, rfl⟩⟩; refine ⟨_, rfl, ?_⟩) | ((with_reducible refine gate_callee (f := 41) rfl ?_); refine goesL_ (some 16) rfl rfl Tryz.func41 u8_ rfl #[.string a1] rfl u2_ ?_; (with_reducible refine (spec_l2Tags.calls k a1 t203 t204 _ A4.out).mono ?_); rintro e w14 ⟨v205, rfl, ho0, hb⟩; refine ⟨_, rfl, ?_⟩; have HO206 := am_ (Kd.R_lower ho0 (below_size u21_)); replace BK200 := am_ (blk_below (g := gb200) (o := .cells #[.string a0_0, .int .i64 a0_1, .int .i64 a0_2] 79 (0, 0)) u71_ hb); replace HB := am_ (below_step u21_ hb); (try clear hb); (try clear hb2); (try clear hk); (try clear hi); (try clear ho0)) | ((with_reducible refine gate_callee (f := 96) rfl ?_); refine goesL_ (some 20) rfl rfl Tryz.func96 u8_ rfl #[.string a1] rfl u2_ ?_; (with_reducible refine (spec_l2Text.calls k a1 true _ A5.out).mono ?_); rintro e w' ⟨rfl, ⟨nd, rfl⟩⟩; refine ⟨_, rfl, ?_⟩; have hcz15_0 : w14.cell? ⟨gb200, 0, none⟩ = some (.string a0_0) := (blk_cell BK200.out 0).trans rfl; have hcz15_1 : w14.cell? ⟨gb200, 1, none⟩ = some (.int .i64 a0_1) := (blk_cell BK200.out 1).trans rfl; have hcz15_2 : w14.cell? ⟨gb200, 2, none⟩ = some (.int .i64 a0_2) := (blk_cell BK200.out 2).trans rfl; have hfz15_0 := blk_frozen BK200.out 0; have hfz15_1 := blk_frozen BK200.out 1; have hfz15_2 := blk_frozen BK200.out 2))
     go_ret
     exact ⟨u5_, u21_⟩
    ·replace c12 := Bool.eq_false_iff.mpr c12; subst c12; have H1 : (if a0_1 = 3 then (some t204) else (some false)) = some r := by rw [if_neg (show ¬ (false = true) by decide)] at H; exact H
     clear H; have H := H1; clear H1; by_cases c16 : a0_1 = 3
     ·rw [if_pos c16] at H; have c16b0 : (a0_1 == 3) = true := beq_iff_eq.mpr c16; have c16b1 : (a0_1 != 3) = false := bne_eq_false_iff_eq.mpr c16; clear c16; obtain rfl := Option.some.inj H; go_enter Tryz.func73, Tryz.ntmps73
      go_wp2_with (first | ((with_reducible refine gate_dst (N := 2) rfl ?_); refine box_event ?hg (N := 2) ?hd (cs := #[.string a0_0, .int .i64 a0_1, .int .i64 a0_2]) (t := 79) ?hr ?_; (case hd => rfl); (case hg => rfl); (case hr => first | (go_simp; done) | (go_simp; rfl)); intro gb200 hg w17 hbox hb; have BK200 := am_ (hbox); have GW200 := am_ ((by rw [hg]; exact (below_size u0_) : w.heap.size ≤ gb200)); have GE200 := GW200; replace HB := am_ (below_step u0_ hb); clear hb hbox hg) | ((with_reducible refine gate_callee (f := 95) rfl ?_); refine goesL_ (some 11) rfl rfl Tryz.func95 u8_ rfl #[.string a1] rfl u2_ ?_; (with_reducible refine (spec_l1Number.calls k a1 t201 false _ A3.out).mono ?_); rintro e w' ⟨rfl, ⟨nd, rfl⟩⟩; refine ⟨_, rfl, ?_⟩) | ((with_reducible refine gate_callee (f := 41) rfl ?_); refine goesL_ (some 16) rfl rfl Tryz.func41 u8_ rfl #[.string a1] rfl u2_ ?_; (with_reducible refine (spec_l2Tags.calls k a1 t203 t204 _ A4.out).mono ?_); rintro e w18 ⟨v205, rfl, ho0, hb⟩; refine ⟨_, rfl, ?_⟩; have HO206 := am_ (Kd.R_lower ho0 (below_size u21_)); replace BK200 := am_ (blk_below (g := gb200) (o := .cells #[.string a0_0, .int .i64 a0_1, .int .i64 a0_2] 79 (0, 0)) u71_ hb); replace HB := am_ (below_step u21_ hb); (try clear hb); (try clear hb2); (try clear hk); (try clear hi); (try clear ho0)) | ((with_reducible refine gate_callee (f := 96) rfl ?_); refine goesL_ (some 20) rfl rfl Tryz.func96 u8_ rfl #[.string a1] rfl u2_ ?_; (with_reducible refine (spec_l2Text.calls k a1 true _ A5.out).mono ?_); rintro e w' ⟨rfl, ⟨nd, rfl⟩⟩; refine ⟨_, rfl, ?_⟩; have hcz19_0 : w18.cell? ⟨gb200, 0, none⟩ = some (.string a0_0) := (blk_cell BK200.out 0).trans rfl; have hcz19_1 : w18.cell? ⟨gb200, 1, none⟩ = some (.int .i64 a0_1) := (blk_cell BK200.out 1).trans rfl; have hcz19_2 : w18.cell? ⟨gb200, 2, none⟩ = some (.int .i64 a0_2) := (blk_cell BK200.out 2).trans rfl; have hfz19_0 := blk_frozen BK200.out 0; have hfz19_1 := blk_frozen BK200.out 1; have hfz19_2 := blk_frozen BK200.out 2))
      go_ret
      exact ⟨u5_, u21_⟩
     ·rw [if_neg c16] at H; have c16b0 : (a0_1 == 3) = false := beq_eq_false_iff_ne.mpr c16; have c16b1 : (a0_1 != 3) = true := bne_iff_ne.mpr c16; obtain rfl := Option.some.inj H; go_enter Tryz.func73, Tryz.ntmps73
      go_wp2_with (first | ((with_reducible refine gate_dst (N := 2) rfl ?_); refine box_event ?hg (N := 2) ?hd (cs := #[.string a0_0, .int .i64 a0_1, .int .i64 a0_2]) (t := 79) ?hr ?_; (case hd => rfl); (case hg => rfl); (case hr => first | (go_simp; done) | (go_simp; rfl)); intro gb200 hg w20 hbox hb; have BK200 := am_ (hbox); have GW200 := am_ ((by rw [hg]; exact (below_size u0_) : w.heap.size ≤ gb200)); have GE200 := GW200; replace HB := am_ (below_step u0_ hb); clear hb hbox hg) | ((with_reducible refine gate_callee (f := 95) rfl ?_); refine goesL_ (some 11) rfl rfl Tryz.func95 u8_ rfl #[.string a1] rfl u2_ ?_; (with_reducible refine (spec_l1Number.calls k a1 t201 false _ A3.out).mono ?_); rintro e w' ⟨rfl, ⟨nd, rfl⟩⟩; refine ⟨_, rfl, ?_⟩) | ((with_reducible refine gate_callee (f := 41) rfl ?_); refine goesL_ (some 16) rfl rfl Tryz.func41 u8_ rfl #[.string a1] rfl u2_ ?_; (with_reducible refine (spec_l2Tags.calls k a1 t203 t204 _ A4.out).mono ?_); rintro e w21 ⟨v205, rfl, ho0, hb⟩; refine ⟨_, rfl, ?_⟩; have HO206 := am_ (Kd.R_lower ho0 (below_size u21_)); replace BK200 := am_ (blk_below (g := gb200) (o := .cells #[.string a0_0, .int .i64 a0_1, .int .i64 a0_2] 79 (0, 0)) u71_ hb); replace HB := am_ (below_step u21_ hb); (try clear hb); (try clear hb2); (try clear hk); (try clear hi); (try clear ho0)) | ((with_reducible refine gate_callee (f := 96) rfl ?_); refine goesL_ (some 20) rfl rfl Tryz.func96 u8_ rfl #[.string a1] rfl u2_ ?_; (with_reducible refine (spec_l2Text.calls k a1 true _ A5.out).mono ?_); rintro e w' ⟨rfl, ⟨nd, rfl⟩⟩; refine ⟨_, rfl, ?_⟩; have hcz22_0 : w21.cell? ⟨gb200, 0, none⟩ = some (.string a0_0) := (blk_cell BK200.out 0).trans rfl; have hcz22_1 : w21.cell? ⟨gb200, 1, none⟩ = some (.int .i64 a0_1) := (blk_cell BK200.out 1).trans rfl; have hcz22_2 : w21.cell? ⟨gb200, 2, none⟩ = some (.int .i64 a0_2) := (blk_cell BK200.out 2).trans rfl; have hfz22_0 := blk_frozen BK200.out 0; have hfz22_1 := blk_frozen BK200.out 1; have hfz22_2 := blk_frozen BK200.out 2))
      go_ret
      exact ⟨u5_, u21_⟩
   ·rw [if_neg c11] at H; have c11b0 : (a0_1 == 2) = false := beq_eq_false_iff_ne.mpr c11; have c11b1 : (a0_1 != 2) = true := bne_iff_ne.mpr c11; by_cases c23 : a0_1 = 3
    ·rw [if_pos c23] at H; have c23b0 : (a0_1 == 3) = true := beq_iff_eq.mpr c23; have c23b1 : (a0_1 != 3) = false := bne_eq_false_iff_eq.mpr c23; clear c23; obtain rfl := Option.some.inj H; go_enter Tryz.func73, Tryz.ntmps73
     go_wp2_with (first | ((with_reducible refine gate_dst (N := 2) rfl ?_); refine box_event ?hg (N := 2) ?hd (cs := #[.string a0_0, .int .i64 a0_1, .int .i64 a0_2]) (t := 79) ?hr ?_; (case hd => rfl); (case hg => rfl); (case hr => first | (go_simp; done) | (go_simp; rfl)); intro gb200 hg w24 hbox hb; have BK200 := am_ (hbox); have GW200 := am_ ((by rw [hg]; exact (below_size u0_) : w.heap.size ≤ gb200)); have GE200 := GW200; replace HB := am_ (below_step u0_ hb); clear hb hbox hg) | ((with_reducible refine gate_callee (f := 95) rfl ?_); refine goesL_ (some 11) rfl rfl Tryz.func95 u8_ rfl #[.string a1] rfl u2_ ?_; (with_reducible refine (spec_l1Number.calls k a1 t201 t202 _ A3.out).mono ?_); rintro e w' ⟨rfl, ⟨nd, rfl⟩⟩; refine ⟨_, rfl, ?_⟩) | ((with_reducible refine gate_callee (f := 41) rfl ?_); refine goesL_ (some 16) rfl rfl Tryz.func41 u8_ rfl #[.string a1] rfl u2_ ?_; (with_reducible refine (spec_l2Tags.calls k a1 t203 t204 _ A4.out).mono ?_); rintro e w25 ⟨v205, rfl, ho0, hb⟩; refine ⟨_, rfl, ?_⟩; have HO206 := am_ (Kd.R_lower ho0 (below_size u21_)); replace BK200 := am_ (blk_below (g := gb200) (o := .cells #[.string a0_0, .int .i64 a0_1, .int .i64 a0_2] 79 (0, 0)) u71_ hb); replace HB := am_ (below_step u21_ hb); (try clear hb); (try clear hb2); (try clear hk); (try clear hi); (try clear ho0)) | ((with_reducible refine gate_callee (f := 96) rfl ?_); refine goesL_ (some 20) rfl rfl Tryz.func96 u8_ rfl #[.string a1] rfl u2_ ?_; (with_reducible refine (spec_l2Text.calls k a1 true _ A5.out).mono ?_); rintro e w' ⟨rfl, ⟨nd, rfl⟩⟩; refine ⟨_, rfl, ?_⟩; have hcz26_0 : w25.cell? ⟨gb200, 0, none⟩ = some (.string a0_0) := (blk_cell BK200.out 0).trans rfl; have hcz26_1 : w25.cell? ⟨gb200, 1, none⟩ = some (.int .i64 a0_1) := (blk_cell BK200.out 1).trans rfl; have hcz26_2 : w25.cell? ⟨gb200, 2, none⟩ = some (.int .i64 a0_2) := (blk_cell BK200.out 2).trans rfl; have hfz26_0 := blk_frozen BK200.out 0; have hfz26_1 := blk_frozen BK200.out 1; have hfz26_2 := blk_frozen BK200.out 2))
     go_ret
     exact ⟨u5_, u21_⟩
    ·rw [if_neg c23] at H; have c23b0 : (a0_1 == 3) = false := beq_eq_false_iff_ne.mpr c23; have c23b1 : (a0_1 != 3) = true := bne_iff_ne.mpr c23; obtain rfl := Option.some.inj H; go_enter Tryz.func73, Tryz.ntmps73
     go_wp2_with (first | ((with_reducible refine gate_dst (N := 2) rfl ?_); refine box_event ?hg (N := 2) ?hd (cs := #[.string a0_0, .int .i64 a0_1, .int .i64 a0_2]) (t := 79) ?hr ?_; (case hd => rfl); (case hg => rfl); (case hr => first | (go_simp; done) | (go_simp; rfl)); intro gb200 hg w27 hbox hb; have BK200 := am_ (hbox); have GW200 := am_ ((by rw [hg]; exact (below_size u0_) : w.heap.size ≤ gb200)); have GE200 := GW200; replace HB := am_ (below_step u0_ hb); clear hb hbox hg) | ((with_reducible refine gate_callee (f := 95) rfl ?_); refine goesL_ (some 11) rfl rfl Tryz.func95 u8_ rfl #[.string a1] rfl u2_ ?_; (with_reducible refine (spec_l1Number.calls k a1 t201 t202 _ A3.out).mono ?_); rintro e w' ⟨rfl, ⟨nd, rfl⟩⟩; refine ⟨_, rfl, ?_⟩) | ((with_reducible refine gate_callee (f := 41) rfl ?_); refine goesL_ (some 16) rfl rfl Tryz.func41 u8_ rfl #[.string a1] rfl u2_ ?_; (with_reducible refine (spec_l2Tags.calls k a1 t203 t204 _ A4.out).mono ?_); rintro e w28 ⟨v205, rfl, ho0, hb⟩; refine ⟨_, rfl, ?_⟩; have HO206 := am_ (Kd.R_lower ho0 (below_size u21_)); replace BK200 := am_ (blk_below (g := gb200) (o := .cells #[.string a0_0, .int .i64 a0_1, .int .i64 a0_2] 79 (0, 0)) u71_ hb); replace HB := am_ (below_step u21_ hb); (try clear hb); (try clear hb2); (try clear hk); (try clear hi); (try clear ho0)) | ((with_reducible refine gate_callee (f := 96) rfl ?_); refine goesL_ (some 20) rfl rfl Tryz.func96 u8_ rfl #[.string a1] rfl u2_ ?_; (with_reducible refine (spec_l2Text.calls k a1 true _ A5.out).mono ?_); rintro e w' ⟨rfl, ⟨nd, rfl⟩⟩; refine ⟨_, rfl, ?_⟩; have hcz29_0 : w28.cell? ⟨gb200, 0, none⟩ = some (.string a0_0) := (blk_cell BK200.out 0).trans rfl; have hcz29_1 : w28.cell? ⟨gb200, 1, none⟩ = some (.int .i64 a0_1) := (blk_cell BK200.out 1).trans rfl; have hcz29_2 : w28.cell? ⟨gb200, 2, none⟩ = some (.int .i64 a0_2) := (blk_cell BK200.out 2).trans rfl; have hfz29_0 := blk_frozen BK200.out 0; have hfz29_1 := blk_frozen BK200.out 1; have hfz29_2 := blk_frozen BK200.out 2))
     go_ret
     exact ⟨u5_, u21_⟩
 ·replace c6 := Bool.eq_false_iff.mpr c6; subst c6; have H1 : (some false) = some r := by rw [if_neg (show ¬ (false = true) by decide)] at H; exact H
  clear H; have H := H1; clear H1; obtain rfl := Option.some.inj H; go_enter Tryz.func73, Tryz.ntmps73
  go_wp2_with (first | ((with_reducible refine gate_dst (N := 2) rfl ?_); refine box_event ?hg (N := 2) ?hd (cs := #[.string a0_0, .int .i64 a0_1, .int .i64 a0_2]) (t := 79) ?hr ?_; (case hd => rfl); (case hg => rfl); (case hr => first | (go_simp; done) | (go_simp; rfl)); intro gb200 hg w30 hbox hb; have BK200 := am_ (hbox); have GW200 := am_ ((by rw [hg]; exact (below_size u0_) : w.heap.size ≤ gb200)); have GE200 := GW200; replace HB := am_ (below_step u0_ hb); clear hb hbox hg) | ((with_reducible refine gate_callee (f := 95) rfl ?_); refine goesL_ (some 11) rfl rfl Tryz.func95 u8_ rfl #[.string a1] rfl u2_ ?_; (with_reducible refine (spec_l1Number.calls k a1 t201 t202 _ A3.out).mono ?_); rintro e w' ⟨rfl, ⟨nd, rfl⟩⟩; refine ⟨_, rfl, ?_⟩) | ((with_reducible refine gate_callee (f := 41) rfl ?_); refine goesL_ (some 16) rfl rfl Tryz.func41 u8_ rfl #[.string a1] rfl u2_ ?_; (with_reducible refine (spec_l2Tags.calls k a1 t203 t204 _ A4.out).mono ?_); rintro e w31 ⟨v205, rfl, ho0, hb⟩; refine ⟨_, rfl, ?_⟩; have HO206 := am_ (Kd.R_lower ho0 (below_size u21_)); replace BK200 := am_ (blk_below (g := gb200) (o := .cells #[.string a0_0, .int .i64 a0_1, .int .i64 a0_2] 79 (0, 0)) u71_ hb); replace HB := am_ (below_step u21_ hb); (try clear hb); (try clear hb2); (try clear hk); (try clear hi); (try clear ho0)) | ((with_reducible refine gate_callee (f := 96) rfl ?_); refine goesL_ (some 20) rfl rfl Tryz.func96 u8_ rfl #[.string a1] rfl u2_ ?_; (with_reducible refine (spec_l2Text.calls k a1 false _ A5.out).mono ?_); rintro e w' ⟨rfl, ⟨nd, rfl⟩⟩; refine ⟨_, rfl, ?_⟩))
  go_ret
  exact ⟨u5_, u21_⟩

end Go.Proofs.YtelcdhjdlgedeaaGreatDoor.PFnExactDocTags
