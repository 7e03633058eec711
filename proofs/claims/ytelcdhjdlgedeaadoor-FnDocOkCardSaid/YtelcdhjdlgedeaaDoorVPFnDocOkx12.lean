/- Contracts of Go functions that the law FnDocOk reaches: each is told as a plain Lean function, with the walk that shows it; no condition beyond what each states. Written by a program of this session round the kit's printer. -/
import Derived.Test.YtelcdhjdlgedeaaDoorVPFnDocOkx0
import Derived.Test.YtelcdhjdlgedeaaDoorVPFnDocOkx8
import Derived.Test.YtelcdhjdlgedeaaDoorVPFnDocOkx9
import Derived.Test.YtelcdhjdlgedeaaDoorVPFnDocOkx10
import Derived.Test.YtelcdhjdlgedeaaDoorVPFnDocOkx11
namespace Go.Proofs.YtelcdhjdlgedeaaDoor.PFnDocOk
open Go.RowKit Go.Proofs.YtelcdhjdlgedeaaDoorW.PrintWords Go.Proofs.YtelcdhjdlgedeaaDoorW.PrintLast Go.Proofs.YtelcdhjdlgedeaaDoorW.PrintMore
attribute [local go_sem] run_str_geq run_str_leq max2_int min2_int max_two min_two max_three min_three max_four min_four   -- for this text's walks alone
set_option linter.unusedVariables false
set_option linter.unusedSimpArgs false

/-! ### spec_l2Tags: function 91 -/
def spec_l2Tags.l0 : Nat → List ByteArray → List ByteArray → Int → Option (List ByteArray × Bool)
 | 0, _, _, _ => none
 | k + 1, x4, x5, x6 => if x6 < (x5.length : Int) then (if 0 ≤ x6 then ((spec_NameOk.f k (rdOf ByteArray.empty x5 x6)).bind fun t393 => (if t393 = true then ((spec_l2Add.f k x4 (rdOf ByteArray.empty x5 x6)).bind fun t395 => (spec_l2Tags.l0 k t395 x5 (wrap64 (x6 + 1)))) else (some ((([] : List ByteArray)), false)))) else (none)) else (some (x4, decide ((x5.length : Int) ≤ 4)))
def spec_l2Tags.f (k : Nat) (a0 : ByteArray) : Option (List ByteArray × Bool) := (spec_l1Cut.f k a0 44 (wrap64 ((a0.size : Int) + 1))).bind fun t389 => (spec_l2Tags.l0 k (([] : List ByteArray)) t389 0)
theorem spec_l2Tags.mono_l : ∀ k, (∀ y0 y1 y2, LeO (spec_l2Tags.l0 k y0 y1 y2) (spec_l2Tags.l0 (k + 1) y0 y1 y2))
 | 0 => fun _ _ _ r h => by simp [spec_l2Tags.l0] at h
 | k + 1 => by
  have ih0 := spec_l2Tags.mono_l k
  ·intro y0 y1 y2; unfold spec_l2Tags.l0
   repeat' first
   | (with_reducible exact ih0 _ _ _)
   | (with_reducible exact spec_NameOk.mono _ _)
   | (with_reducible exact spec_l1Cut.mono _ _ _ _)
   | (with_reducible exact spec_l2Add.mono _ _ _)
   | (with_reducible exact LeO.refl _)
   | (with_reducible exact LeO.none _)
   | (with_reducible refine LeO.ite ?_ ?_)
   | (with_reducible refine LeO.bind ?_ (fun _ => ?_))
   | exact ih0 _ _ _
   | exact spec_NameOk.mono _ _
   | exact spec_l1Cut.mono _ _ _ _
   | exact spec_l2Add.mono _ _ _
   | exact LeO.none _
   | refine LeO.ite ?_ ?_
   | refine LeO.bind ?_ (fun _ => ?_)
theorem spec_l2Tags.mono : ∀ a0 k, LeO (spec_l2Tags.f k a0) (spec_l2Tags.f (k + 1) a0) := by
 intro a0 k; have ih0 := spec_l2Tags.mono_l k; unfold spec_l2Tags.f
 repeat' first
   | (with_reducible exact ih0 _ _ _)
   | (with_reducible exact spec_NameOk.mono _ _)
   | (with_reducible exact spec_l1Cut.mono _ _ _ _)
   | (with_reducible exact spec_l2Add.mono _ _ _)
   | (with_reducible exact LeO.refl _)
   | (with_reducible exact LeO.none _)
   | (with_reducible refine LeO.ite ?_ ?_)
   | (with_reducible refine LeO.bind ?_ (fun _ => ?_))
   | exact ih0 _ _ _
   | exact spec_NameOk.mono _ _
   | exact spec_l1Cut.mono _ _ _ _
   | exact spec_l2Add.mono _ _ _
   | exact LeO.none _
   | refine LeO.ite ?_ ?_
   | refine LeO.bind ?_ (fun _ => ?_)
set_option maxHeartbeats 8000000 in
set_option maxRecDepth 100000 in
theorem spec_l2Tags.calls (k : Nat) (a0 : ByteArray) (r1 : List ByteArray) (r2 : Bool) (w : World) (h : spec_l2Tags.f k a0 = some (r1, r2)) :
  Calls Tryd.prog 91 #[.string a0] w fun e w' => ∃ v0_ : Value, e = .returned (.tuple #[v0_, .bool r2]) ∧ Kd.R Kd.string 9 w' w.heap.size (fun _ => True) v0_ r1 ∧ Below w.heap.size w w' := by
 have HB := am_ (Below.refl w.heap.size w); have H : ((spec_l1Cut.f k a0 44 (wrap64 ((a0.size : Int) + 1))).bind fun t389 => (spec_l2Tags.l0 k (([] : List ByteArray)) t389 0)) = some (r1, r2) := h; clear h; obtain ⟨y386, hy386⟩ : ∃ y_ : List ByteArray, y_ = (([] : List ByteArray)) := ⟨_, rfl⟩; replace H : ((spec_l1Cut.f k a0 44 (wrap64 ((a0.size : Int) + 1))).bind fun t389 => (spec_l2Tags.l0 k y386 t389 0)) = some (r1, r2) := by first | (rw [hy386]; with_reducible exact H) | (have H2_ := (Option.bind_some _ _).symm.trans H; rw [hy386]; with_reducible exact H2_) | (have H2_ := (Option.bind_some _ _).symm.trans H; with_reducible exact H2_) | with_reducible exact H | (rw [hy386]; exact H) | exact H
 have Ny386 := am_ hy386; clear hy386; replace H := Option.bind_eq_some_iff.mp H; obtain ⟨t389, A20, H⟩ := H; replace H : (spec_l2Tags.l0 k y386 t389 0) = some (r1, r2) := H; have A2 := am_ A20; clear A20; have H' := am_ H; clear H; go_enter Tryd.func91, Tryd.ntmps91
 go_wp2_with (first | ((with_reducible refine gate_dst (N := 7) rfl ?_); refine Kd.R_lit Kd.string _ 9 ?hg (N := 7) ?hd (xs := ([] : List ByteArray)) (inner := []) (ok := fun _ => True) (okp := fun _ => True) ?hr ?hp (fun _ hk => hk) trivial (Below.refl _ _) (Nat.le_refl _) u99_ ?_; (case hd => rfl); (case hg => rfl); (case hr => exact u33_); (case hp => exact u162_); intro v387 w3 ho4 hb hg_ hnew_; clear hg_ hnew_; (first | rw [← Ny386.out] at ho4 | (simp only [Int.reduceToNat] at ho4; rw [← Ny386.out] at ho4)); have HO388 := am_ (Kd.R_lower ho4 (below_size u2_)); replace HB := am_ (below_step u2_ hb); clear hb ho4) | ((with_reducible refine gate_callee (f := 40) rfl ?_); refine goesL_ (some 12) rfl rfl Tryd.func40 u23_ rfl #[.string a0, .int .u8 44, .int .i64 (wrap64 ((a0.size : Int) + 1))] rfl u1_ ?_; (with_reducible refine (spec_l1Cut.calls k a0 44 (wrap64 ((a0.size : Int) + 1)) t389 _ A2.out).mono ?_); rintro e w5 ⟨v390, rfl, ho0, hb⟩; refine ⟨_, rfl, ?_⟩; have HO391 := am_ (Kd.R_lower (Kd.R_new' ho0 (Kd.R_lt u208_)) (below_size u2_)); replace HO388 := am_ (Kd.R_elder' u208_ (Kd.R_base ho0) hb); replace HB := am_ (below_step u2_ hb); (try clear hb); (try clear hb2); (try clear hk); (try clear hi); (try clear ho0)))
 go_loopg [4, 6] k (fun kq v4 v6 w' => ∃ (x4_1 : List ByteArray) (x6_1 : Int), v6 = .int .i64 x6_1 ∧ Aside0 (spec_l2Tags.l0 kq x4_1 t389 x6_1 = some (r1, r2)) ∧ Aside0 (kq ≤ k) ∧ Aside0 (Kd.R Kd.string 9 w' w.heap.size (fun k_ => some k_ ≠ (v390 : Value).ownBlock) v4 x4_1) ∧ Aside0 (Kd.R Kd.string 9 w' w.heap.size (fun k_ => some k_ ≠ (v4 : Value).ownBlock) v390 t389) ∧ Aside0 (Below w.heap.size w w'))
 case atStart => exact ⟨(y386), (0), u35_, H', ⟨Nat.le_refl _⟩, ⟨by (with_reducible repeat (first | apply Kd.R_alloc | apply Kd.R_drewN | apply Kd.R_drew)); exact Kd.R_mono HO388.out (fun _ hk => hk.2)⟩, ⟨by (with_reducible repeat (first | apply Kd.R_alloc | apply Kd.R_drewN | apply Kd.R_drew)); exact Kd.R_mono HO391.out (fun _ hk => hk.2)⟩, ⟨u2_⟩⟩
 case round =>
  clear H'; try clear p2
  try clear c4
  obtain ⟨x4_1, x6_1, rfl, HA, HK1, HO_4, HO_5, HB⟩ := hrel; cases gk with
  | zero => exact absurd HA.out (by simp [spec_l2Tags.l0])
  | succ k1 =>
   have H := HA.out; clear HA; simp only [spec_l2Tags.l0] at H; by_cases c6 : x6_1 < (t389.length : Int)
   ·rw [if_pos c6] at H; have c6b0 : decide (x6_1 < (t389.length : Int)) = true := decide_eq_true c6; clear c6; by_cases c7 : 0 ≤ x6_1
    ·rw [if_pos c7] at H; have c7b0 : decide (0 ≤ x6_1) = true := decide_eq_true c7; clear c7; replace H := Option.bind_eq_some_iff.mp H; obtain ⟨t393, A80, H⟩ := H; replace H : (if t393 = true then ((spec_l2Add.f k1 x4_1 (rdOf ByteArray.empty t389 x6_1)).bind fun t395 => (spec_l2Tags.l0 k1 t395 t389 (wrap64 (x6_1 + 1)))) else (some ((([] : List ByteArray)), false))) = some (r1, r2) := H; have A8 := am_ A80; clear A80; by_cases c9 : t393 = true
     ·subst c9; rw [if_pos rfl] at H; replace H := Option.bind_eq_some_iff.mp H; obtain ⟨t395, A100, H⟩ := H; replace H : (spec_l2Tags.l0 k1 t395 t389 (wrap64 (x6_1 + 1))) = some (r1, r2) := H; have A10 := am_ A100; clear A100; have H' := am_ H; clear H; obtain ⟨Ao11, co11, eo11⟩ := Kd.R_slice HO_5.out; subst eo11; have p392 : 0 ≤ (x6_1 : Int) := of_decide_eq_true u5_; have q392 : x6_1 < (t389.length : Int) := of_decide_eq_true u5_; obtain ⟨ad392, e392, hx392_0⟩ := Kd.at_string (Kd.R_reads' HO_5.out).2.2 x6_1 p392 q392; cases e392; replace p392 := eq_true p392; replace q392 := eq_true q392; go_wp2_with (first | ((with_reducible refine gate_callee (f := 69) rfl ?_); refine goesL_ (some 23) rfl rfl Tryd.func69 u23_ rfl #[.string (rdOf ByteArray.empty t389 x6_1)] rfl u1_ ?_; (with_reducible refine (spec_NameOk.calls k1 (rdOf ByteArray.empty t389 x6_1) true _ A8.out).mono ?_); rintro e w' ⟨rfl, ⟨nd, rfl⟩⟩; refine ⟨_, rfl, ?_⟩; have p394 : 0 ≤ (x6_1 : Int) := of_decide_eq_true u5_; have q394 : x6_1 < (t389.length : Int) := of_decide_eq_true u5_; obtain ⟨ad394, e394, hx394_0⟩ := Kd.at_string (Kd.R_reads' HO_5.out).2.2 x6_1 p394 q394; obtain rfl : ad392 = ad394 := (by injection e394); replace p394 := eq_true p394; replace q394 := eq_true q394; obtain ⟨Ao12, co12, eo12⟩ := Kd.R_slice HO_4.out; subst eo12) | ((with_reducible refine gate_callee (f := 114) rfl ?_); refine goesL_ (some 31) rfl rfl Tryd.func114 u23_ rfl #[.slice Ao12 x4_1.length co12, .string (rdOf ByteArray.empty t389 x6_1)] rfl u1_ ?_; (with_reducible refine (spec_l2Add.calls k1 (fun k_ => some k_ = (.slice Ao12 x4_1.length co12 : Value).ownBlock) (.slice Ao12 x4_1.length co12) x4_1 (rdOf ByteArray.empty t389 x6_1) t395 w _ ?side1 ?side2 A10.out).mono ?_); (case side1 => repeat (first | (with_reducible first | exact HB.out | apply below_alloc | apply pw_below_drewN | apply below_drew1) | exact HB.out)); (case side2 => exact Kd.R_tight rfl HO_4.out); rintro e w13 ⟨v396, rfl, ho0, hb, hkp⟩; refine ⟨_, rfl, ?_⟩; have HO397 := am_ (Kd.R_mono (ok' := fun k_ => some k_ ≠ (.slice (some ad392) t389.length co11 : Value).ownBlock) ho0 (fun k_ hk_ => Or.elim hk_ (fun hs_ => fun e_ => (((HO_5.out).1 k_ e_.symm)) hs_) (fun hn_ => (Kd.fresh' (Kd.R_lt u156_) k_ hn_)))); replace HO_5 := am_ (Kd.R_mono (ok' := fun k_ => some k_ ≠ (v396 : Value).ownBlock) (Kd.R_keptB (HO_5.out) hkp (fun k_ hk_ hs_ => (hk_) hs_)) (fun k_ hk_ => fun e_ => Or.elim (ho0.1 k_ e_.symm) (fun hs_ => hk_.2.1 hs_) (fun hn_ => Nat.not_le.2 hk_.2.2 hn_))); replace HB := am_ (hb); clear HO_4; (try clear hb); (try clear hkp); (try clear ho0)))
      go_roundg k1
      case measure => have := HK1.out; omega
      case rel => exact ⟨(t395), (wrap64 (x6_1 + 1)), u35_, H', ⟨u131_⟩, ⟨by (with_reducible repeat (first | apply Kd.R_alloc | apply Kd.R_drewN | apply Kd.R_drew)); exact HO397.out⟩, ⟨u156_⟩, ⟨u2_⟩⟩
     ·replace c9 := Bool.eq_false_iff.mpr c9; subst c9; rw [if_neg (show ¬ (false = true) by decide)] at H; obtain ⟨y398, hy398⟩ : ∃ y_ : List ByteArray, y_ = (([] : List ByteArray)) := ⟨_, rfl⟩; replace H : (some (y398, false)) = some (r1, r2) := by first | (rw [hy398]; with_reducible exact H) | (have H2_ := (Option.bind_some _ _).symm.trans H; rw [hy398]; with_reducible exact H2_) | (have H2_ := (Option.bind_some _ _).symm.trans H; with_reducible exact H2_) | with_reducible exact H | (rw [hy398]; exact H) | exact H
      have Ny398 := am_ hy398; clear hy398; simp only [Option.some.injEq, Prod.mk.injEq] at H; obtain ⟨rfl, rfl⟩ := H; obtain ⟨Ao14, co14, eo14⟩ := Kd.R_slice HO_5.out; subst eo14; have p392 : 0 ≤ (x6_1 : Int) := of_decide_eq_true u5_; have q392 : x6_1 < (t389.length : Int) := of_decide_eq_true u5_; obtain ⟨ad392, e392, hx392_0⟩ := Kd.at_string (Kd.R_reads' HO_5.out).2.2 x6_1 p392 q392; cases e392; replace p392 := eq_true p392; replace q392 := eq_true q392; go_wp2_with (first | ((with_reducible refine gate_callee (f := 69) rfl ?_); refine goesL_ (some 23) rfl rfl Tryd.func69 u23_ rfl #[.string (rdOf ByteArray.empty t389 x6_1)] rfl u1_ ?_; (with_reducible refine (spec_NameOk.calls k1 (rdOf ByteArray.empty t389 x6_1) false _ A8.out).mono ?_); rintro e w' ⟨rfl, ⟨nd, rfl⟩⟩; refine ⟨_, rfl, ?_⟩) | ((with_reducible refine gate_dst (N := 25) rfl ?_); refine Kd.R_lit Kd.string _ 9 ?hg (N := 25) ?hd (xs := ([] : List ByteArray)) (inner := []) (ok := fun _ => True) (okp := fun _ => True) ?hr ?hp (fun _ hk => hk) trivial (Below.refl _ _) (Nat.le_refl _) u99_ ?_; (case hd => rfl); (case hg => rfl); (case hr => exact u33_); (case hp => exact u162_); intro v399 w15 ho16 hb hg_ hnew_; clear hg_ hnew_; (first | rw [← Ny398.out] at ho16 | (simp only [Int.reduceToNat] at ho16; rw [← Ny398.out] at ho16)); have HO400 := am_ (Kd.R_lower (Kd.R_new' (Kd.R_new' ho16 (Kd.R_lt u209_)) (Kd.R_lt u156_)) (below_size u2_)); replace HO_4 := am_ (Kd.R_elder' u209_ (Kd.R_base ho16) hb); replace HO_5 := am_ (Kd.R_elder' u156_ (Kd.R_base ho16) hb); replace HB := am_ (below_step u2_ hb); clear hb ho16))
      go_ret2
      exact ⟨_, u6_, by (with_reducible repeat (first | apply Kd.R_alloc | apply Kd.R_drewN | apply Kd.R_drew)); exact Kd.R_mono HO400.out (fun _ hk => trivial), u2_⟩
    ·exact u250_
   ·rw [if_neg c6] at H; have c6b0 : decide (x6_1 < (t389.length : Int)) = false := decide_eq_false c6; clear c6; simp only [Option.some.injEq, Prod.mk.injEq] at H; obtain ⟨rfl, rfl⟩ := H; obtain ⟨Ao17, co17, eo17⟩ := Kd.R_slice HO_5.out; subst eo17; go_wp2; go_ret2
    exact ⟨_, u6_, by (with_reducible repeat (first | apply Kd.R_alloc | apply Kd.R_drewN | apply Kd.R_drew)); exact Kd.R_mono HO_4.out (fun _ hk => trivial), u2_⟩

/-! ### spec_l2Text: function 92 -/
def spec_l2Text.l0 : Nat → ByteArray → Int → Option (Bool)
 | 0, _, _ => none
 | k + 1, x0, x3 => if x3 < (x0.size : Int) then (if 0 ≤ x3 then ((spec_l1In.f (wrap64 (bt x0 x3)) 32 126).bind fun t401 => (if t401 = true then (spec_l2Text.l0 k x0 (wrap64 (x3 + 1))) else (some false))) else (none)) else (some (decide ((x0.size : Int) ≤ 60)))
def spec_l2Text.f (k : Nat) (a0 : ByteArray) : Option (Bool) := spec_l2Text.l0 k a0 0
theorem spec_l2Text.mono_l : ∀ k, (∀ y0 y1, LeO (spec_l2Text.l0 k y0 y1) (spec_l2Text.l0 (k + 1) y0 y1))
 | 0 => fun _ _ r h => by simp [spec_l2Text.l0] at h
 | k + 1 => by
  have ih0 := spec_l2Text.mono_l k
  ·intro y0 y1; unfold spec_l2Text.l0
   repeat' first
   | (with_reducible exact ih0 _ _)
   | (with_reducible exact LeO.refl _)
   | (with_reducible exact LeO.none _)
   | (with_reducible refine LeO.ite ?_ ?_)
   | (with_reducible refine LeO.bind ?_ (fun _ => ?_))
   | exact ih0 _ _
   | exact LeO.none _
   | refine LeO.ite ?_ ?_
   | refine LeO.bind ?_ (fun _ => ?_)
theorem spec_l2Text.mono : ∀ a0 k, LeO (spec_l2Text.f k a0) (spec_l2Text.f (k + 1) a0) := by
 intro a0 k; have ih0 := spec_l2Text.mono_l k; unfold spec_l2Text.f
 repeat' first
   | (with_reducible exact ih0 _ _)
   | (with_reducible exact LeO.refl _)
   | (with_reducible exact LeO.none _)
   | (with_reducible refine LeO.ite ?_ ?_)
   | (with_reducible refine LeO.bind ?_ (fun _ => ?_))
   | exact ih0 _ _
   | exact LeO.none _
   | refine LeO.ite ?_ ?_
   | refine LeO.bind ?_ (fun _ => ?_)
set_option maxHeartbeats 8000000 in
set_option maxRecDepth 100000 in
theorem spec_l2Text.calls (k : Nat) (a0 : ByteArray) (r : Bool) (w : World) (h : spec_l2Text.f k a0 = some r) :
  Calls Tryd.prog 92 #[.string a0] w fun e w' => e = .returned (.bool r) ∧ Drawn0 w w' := by
 have H : (spec_l2Text.l0 k a0 0) = some r := h; clear h; have H' := am_ H; clear H; go_enter Tryd.func92, Tryd.ntmps92
 go_wp2; go_loopg [3] k (fun kq v3 w' => ∃ (x3_1 : Int), v3 = .int .i64 x3_1 ∧ Aside0 (spec_l2Text.l0 kq a0 x3_1 = some r) ∧ Aside0 (kq ≤ k) ∧ Drawn0 w w')
 case atStart => exact ⟨(0), u35_, H', ⟨Nat.le_refl _⟩, u41_⟩
 case round =>
  clear H'; obtain ⟨x3_1, rfl, HA, HK1, ⟨m1, rfl⟩⟩ := hrel; cases gk with
  | zero => exact absurd HA.out (by simp [spec_l2Text.l0])
  | succ k1 =>
   have H := HA.out; clear HA; simp only [spec_l2Text.l0] at H; by_cases c2 : x3_1 < (a0.size : Int)
   ·rw [if_pos c2] at H; have c2b0 : decide (x3_1 < (a0.size : Int)) = true := decide_eq_true c2; clear c2; by_cases c3 : 0 ≤ x3_1
    ·rw [if_pos c3] at H; have c3b0 : decide (0 ≤ x3_1) = true := decide_eq_true c3; clear c3; replace H := Option.bind_eq_some_iff.mp H; obtain ⟨t401, A50, H⟩ := H; replace H : (if t401 = true then (spec_l2Text.l0 k1 a0 (wrap64 (x3_1 + 1))) else (some false)) = some r := H; have A5 := am_ A50; clear A50; by_cases c6 : t401 = true
     ·subst c6; rw [if_pos rfl] at H; have H' := am_ H; clear H; have p4 : 0 ≤ (x3_1 : Int) := of_decide_eq_true u5_; have q4 : x3_1 < (a0.size : Int) := of_decide_eq_true u5_; have hx4 := bt_at a0 x3_1; replace p4 := eq_true p4; replace q4 := eq_true q4; go_wp2_with (first | ((with_reducible refine gate_callee (f := 68) rfl ?_); refine goesL_ (some 14) rfl rfl Tryd.func68 u23_ rfl #[.int .i64 (wrap64 (bt a0 x3_1)), .int .i64 32, .int .i64 126] rfl u1_ ?_; (with_reducible refine (spec_l1In.calls (wrap64 (bt a0 x3_1)) 32 126 true _ A5.out).mono ?_); rintro e w' ⟨rfl, ⟨nd, rfl⟩⟩; refine ⟨_, rfl, ?_⟩))
      go_roundg k1
      case measure => have := HK1.out; omega
      case rel => exact ⟨(wrap64 (x3_1 + 1)), u35_, H', ⟨u131_⟩, u41_⟩
     ·replace c6 := Bool.eq_false_iff.mpr c6; subst c6; rw [if_neg (show ¬ (false = true) by decide)] at H; obtain rfl := Option.some.inj H; have p4 : 0 ≤ (x3_1 : Int) := of_decide_eq_true u5_; have q4 : x3_1 < (a0.size : Int) := of_decide_eq_true u5_; have hx4 := bt_at a0 x3_1; replace p4 := eq_true p4; replace q4 := eq_true q4; go_wp2_with (first | ((with_reducible refine gate_callee (f := 68) rfl ?_); refine goesL_ (some 14) rfl rfl Tryd.func68 u23_ rfl #[.int .i64 (wrap64 (bt a0 x3_1)), .int .i64 32, .int .i64 126] rfl u1_ ?_; (with_reducible refine (spec_l1In.calls (wrap64 (bt a0 x3_1)) 32 126 false _ A5.out).mono ?_); rintro e w' ⟨rfl, ⟨nd, rfl⟩⟩; refine ⟨_, rfl, ?_⟩))
      go_ret
      exact ⟨u45_, u41_⟩
    ·exact u239_
   ·rw [if_neg c2] at H; have c2b0 : decide (x3_1 < (a0.size : Int)) = false := decide_eq_false c2; clear c2; obtain rfl := Option.some.inj H; go_wp2; go_ret
    exact ⟨u45_, u41_⟩

/-! ### spec_l2Cell: function 64 -/
def spec_l2Cell.f (k : Nat) (a0_0 : ByteArray) (a0_1 : Int) (a0_2 : Int) (a1 : ByteArray) : Option (Bool) := (spec_l1Number.f k a1).bind fun bt403 => ((spec_l2Tags.f k a1).bind fun bt405 => ((spec_l2Text.f k a1).bind fun t409 => (if t409 = true then (if a0_1 = 1 then (some true) else (if a0_1 = 2 then (if bt403.2 = true then (some true) else (if a0_1 = 3 then (some bt405.2) else (some false))) else (if a0_1 = 3 then (some bt405.2) else (some false)))) else (some false))))
theorem spec_l2Cell.mono : ∀ a0 a1 a2 a3 k, LeO (spec_l2Cell.f k a0 a1 a2 a3) (spec_l2Cell.f (k + 1) a0 a1 a2 a3) := by
 intro a0 a1 a2 a3 k; unfold spec_l2Cell.f
 repeat' first
   | (with_reducible exact spec_l1Number.mono _ _)
   | (with_reducible exact spec_l2Tags.mono _ _)
   | (with_reducible exact spec_l2Text.mono _ _)
   | (with_reducible exact LeO.refl _)
   | (with_reducible exact LeO.none _)
   | (with_reducible refine LeO.ite ?_ ?_)
   | (with_reducible refine LeO.bind ?_ (fun _ => ?_))
   | exact spec_l1Number.mono _ _
   | exact spec_l2Tags.mono _ _
   | exact spec_l2Text.mono _ _
   | exact LeO.none _
   | refine LeO.ite ?_ ?_
   | refine LeO.bind ?_ (fun _ => ?_)
set_option maxHeartbeats 8000000 in
set_option maxRecDepth 100000 in
theorem spec_l2Cell.calls (k : Nat) (a0_0 : ByteArray) (a0_1 : Int) (a0_2 : Int) (a1 : ByteArray) (r : Bool) (w : World) (h : spec_l2Cell.f k a0_0 a0_1 a0_2 a1 = some r) :
  Calls Tryd.prog 64 #[.agg #[.string a0_0, .int .i64 a0_1, .int .i64 a0_2], .string a1] w fun e w' => e = .returned (.bool r) ∧ Below w.heap.size w w' := by
 have hu75 := Tryd.underlying75; have HB := am_ (Below.refl w.heap.size w); have H : ((spec_l1Number.f k a1).bind fun bt403 => ((spec_l2Tags.f k a1).bind fun bt405 => ((spec_l2Text.f k a1).bind fun t409 => (if t409 = true then (if a0_1 = 1 then (some true) else (if a0_1 = 2 then (if bt403.2 = true then (some true) else (if a0_1 = 3 then (some bt405.2) else (some false))) else (if a0_1 = 3 then (some bt405.2) else (some false)))) else (some false))))) = some r := h; clear h; replace H := Option.bind_eq_some_iff.mp H; obtain ⟨⟨t403, t404⟩, A30, H⟩ := H; replace H : ((spec_l2Tags.f k a1).bind fun bt405 => ((spec_l2Text.f k a1).bind fun t409 => (if t409 = true then (if a0_1 = 1 then (some true) else (if a0_1 = 2 then (if t404 = true then (some true) else (if a0_1 = 3 then (some bt405.2) else (some false))) else (if a0_1 = 3 then (some bt405.2) else (some false)))) else (some false)))) = some r := H; have A3 := am_ A30; clear A30; replace H := Option.bind_eq_some_iff.mp H; obtain ⟨⟨t405, t406⟩, A40, H⟩ := H; replace H : ((spec_l2Text.f k a1).bind fun t409 => (if t409 = true then (if a0_1 = 1 then (some true) else (if a0_1 = 2 then (if t404 = true then (some true) else (if a0_1 = 3 then (some t406) else (some false))) else (if a0_1 = 3 then (some t406) else (some false)))) else (some false))) = some r := H; have A4 := am_ A40; clear A40; replace H := Option.bind_eq_some_iff.mp H; obtain ⟨t409, A50, H⟩ := H; replace H : (if t409 = true then (if a0_1 = 1 then (some true) else (if a0_1 = 2 then (if t404 = true then (some true) else (if a0_1 = 3 then (some t406) else (some false))) else (if a0_1 = 3 then (some t406) else (some false)))) else (some false)) = some r := H; have A5 := am_ A50; clear A50; by_cases c6 : t409 = true
 ·subst c6; rw [if_pos rfl] at H; by_cases c7 : a0_1 = 1
  ·rw [if_pos c7] at H; have c7b0 : (a0_1 == 1) = true := beq_iff_eq.mpr c7; have c7b1 : (a0_1 != 1) = false := bne_eq_false_iff_eq.mpr c7; clear c7; obtain rfl := Option.some.inj H; go_enter Tryd.func64, Tryd.ntmps64
   go_wp2_with (first | ((with_reducible refine gate_dst (N := 2) rfl ?_); refine box_event ?hg (N := 2) ?hd (cs := #[.string a0_0, .int .i64 a0_1, .int .i64 a0_2]) (t := 75) ?hr ?_; (case hd => rfl); (case hg => rfl); (case hr => exact u33_); intro gb402 hg w8 hbox hb; have BK402 := am_ (hbox); have GW402 := am_ ((by rw [hg]; exact (below_size u2_) : w.heap.size ≤ gb402)); have GE402 := GW402; replace HB := am_ (below_step u2_ hb); clear hb hbox hg) | ((with_reducible refine gate_callee (f := 90) rfl ?_); refine goesL_ (some 11) rfl rfl Tryd.func90 u23_ rfl #[.string a1] rfl u1_ ?_; (with_reducible refine (spec_l1Number.calls k a1 t403 t404 _ A3.out).mono ?_); rintro e w' ⟨rfl, ⟨nd, rfl⟩⟩; refine ⟨_, rfl, ?_⟩) | ((with_reducible refine gate_callee (f := 91) rfl ?_); refine goesL_ (some 16) rfl rfl Tryd.func91 u23_ rfl #[.string a1] rfl u1_ ?_; (with_reducible refine (spec_l2Tags.calls k a1 t405 t406 _ A4.out).mono ?_); rintro e w9 ⟨v407, rfl, ho0, hb⟩; refine ⟨_, rfl, ?_⟩; have HO408 := am_ (Kd.R_lower ho0 (below_size u42_)); replace BK402 := am_ (blk_below (g := gb402) (o := .cells #[.string a0_0, .int .i64 a0_1, .int .i64 a0_2] 75 (0, 0)) u113_ hb); replace HB := am_ (below_step u42_ hb); (try clear hb); (try clear hb2); (try clear hk); (try clear hi); (try clear ho0)) | ((with_reducible refine gate_callee (f := 92) rfl ?_); refine goesL_ (some 20) rfl rfl Tryd.func92 u23_ rfl #[.string a1] rfl u1_ ?_; (with_reducible refine (spec_l2Text.calls k a1 true _ A5.out).mono ?_); rintro e w' ⟨rfl, ⟨nd, rfl⟩⟩; refine ⟨_, rfl, ?_⟩; have hcz10_0 : w9.cell? ⟨gb402, 0, none⟩ = some (.string a0_0) := (blk_cell BK402.out 0).trans rfl; have hcz10_1 : w9.cell? ⟨gb402, 1, none⟩ = some (.int .i64 a0_1) := (blk_cell BK402.out 1).trans rfl; have hcz10_2 : w9.cell? ⟨gb402, 2, none⟩ = some (.int .i64 a0_2) := (blk_cell BK402.out 2).trans rfl; have hfz10_0 := blk_frozen BK402.out 0; have hfz10_1 := blk_frozen BK402.out 1; have hfz10_2 := blk_frozen BK402.out 2))
   go_ret
   exact ⟨u6_, u42_⟩
  ·rw [if_neg c7] at H; have c7b0 : (a0_1 == 1) = false := beq_eq_false_iff_ne.mpr c7; have c7b1 : (a0_1 != 1) = true := bne_iff_ne.mpr c7; by_cases c11 : a0_1 = 2
   ·rw [if_pos c11] at H; have c11b0 : (a0_1 == 2) = true := beq_iff_eq.mpr c11; have c11b1 : (a0_1 != 2) = false := bne_eq_false_iff_eq.mpr c11; clear c11; by_cases c12 : t404 = true
    ·subst c12; rw [if_pos rfl] at H; obtain rfl := Option.some.inj H; go_enter Tryd.func64, Tryd.ntmps64
     go_wp2_with (first | ((with_reducible refine gate_dst (N := 2) rfl ?_); refine box_event ?hg (N := 2) ?hd (cs := #[.string a0_0, .int .i64 a0_1, .int .i64 a0_2]) (t := 75) ?hr ?_; (case hd => rfl); (case hg => rfl); (case hr => exact u33_); intro gb402 hg w13 hbox hb; have BK402 := am_ (hbox); have GW402 := am_ ((by rw [hg]; exact (below_size u2_) : w.heap.size ≤ gb402)); have GE402 := GW402; replace HB := am_ (below_step u2_ hb); clear hb hbox hg) | ((with_reducible refine gate_callee (f := 90) rfl ?_); refine goesL_ (some 11) rfl rfl Tryd.func90 u23_ rfl #[.string a1] rfl u1_ ?_; (with_reducible refine (spec_l1Number.calls k a1 t403 true _ A3.out).mono ?_); rintro e w' ⟨rfl, ⟨nd, rfl⟩⟩; refine ⟨_, rfl, ?_⟩) | ((with_reducible refine gate_callee (f := 91) rfl ?_); refine goesL_ (some 16) rfl rfl Tryd.func91 u23_ rfl #[.string a1] rfl u1_ ?_; (with_reducible refine (spec_l2Tags.calls k a1 t405 t406 _ A4.out).mono ?_); rintro e w14 ⟨v407, rfl, ho0, hb⟩; refine ⟨_, rfl, ?_⟩; have HO408 := am_ (Kd.R_lower ho0 (below_size u42_)); replace BK402 := am_ (blk_below (g := gb402) (o := .cells #[.string a0_0, .int .i64 a0_1, .int .i64 a0_2] 75 (0, 0)) u113_ hb); replace HB := am_ (below_step u42_ hb); (try clear hb); (try clear hb2); (try clear hk); (try clear hi); (try clear ho0)) | ((with_reducible refine gate_callee (f := 92) rfl ?_); refine goesL_ (some 20) rfl rfl Tryd.func92 u23_ rfl #[.string a1] rfl u1_ ?_; (with_reducible refine (spec_l2Text.calls k a1 true _ A5.out).mono ?_); rintro e w' ⟨rfl, ⟨nd, rfl⟩⟩; refine ⟨_, rfl, ?_⟩; have hcz15_0 : w14.cell? ⟨gb402, 0, none⟩ = some (.string a0_0) := (blk_cell BK402.out 0).trans rfl; have hcz15_1 : w14.cell? ⟨gb402, 1, none⟩ = some (.int .i64 a0_1) := (blk_cell BK402.out 1).trans rfl; have hcz15_2 : w14.cell? ⟨gb402, 2, none⟩ = some (.int .i64 a0_2) := (blk_cell BK402.out 2).trans rfl; have hfz15_0 := blk_frozen BK402.out 0; have hfz15_1 := blk_frozen BK402.out 1; have hfz15_2 := blk_frozen BK402.out 2))
     go_ret
     exact ⟨u6_, u42_⟩
    ·replace c12 := Bool.eq_false_iff.mpr c12; subst c12; rw [if_neg (show ¬ (false = true) by decide)] at H; by_cases c16 : a0_1 = 3
     ·rw [if_pos c16] at H; have c16b0 : (a0_1 == 3) = true := beq_iff_eq.mpr c16; have c16b1 : (a0_1 != 3) = false := bne_eq_false_iff_eq.mpr c16; clear c16; obtain rfl := Option.some.inj H; go_enter Tryd.func64, Tryd.ntmps64
      go_wp2_with (first | ((with_reducible refine gate_dst (N := 2) rfl ?_); refine box_event ?hg (N := 2) ?hd (cs := #[.string a0_0, .int .i64 a0_1, .int .i64 a0_2]) (t := 75) ?hr ?_; (case hd => rfl); (case hg => rfl); (case hr => exact u33_); intro gb402 hg w17 hbox hb; have BK402 := am_ (hbox); have GW402 := am_ ((by rw [hg]; exact (below_size u2_) : w.heap.size ≤ gb402)); have GE402 := GW402; replace HB := am_ (below_step u2_ hb); clear hb hbox hg) | ((with_reducible refine gate_callee (f := 90) rfl ?_); refine goesL_ (some 11) rfl rfl Tryd.func90 u23_ rfl #[.string a1] rfl u1_ ?_; (with_reducible refine (spec_l1Number.calls k a1 t403 false _ A3.out).mono ?_); rintro e w' ⟨rfl, ⟨nd, rfl⟩⟩; refine ⟨_, rfl, ?_⟩) | ((with_reducible refine gate_callee (f := 91) rfl ?_); refine goesL_ (some 16) rfl rfl Tryd.func91 u23_ rfl #[.string a1] rfl u1_ ?_; (with_reducible refine (spec_l2Tags.calls k a1 t405 t406 _ A4.out).mono ?_); rintro e w18 ⟨v407, rfl, ho0, hb⟩; refine ⟨_, rfl, ?_⟩; have HO408 := am_ (Kd.R_lower ho0 (below_size u42_)); replace BK402 := am_ (blk_below (g := gb402) (o := .cells #[.string a0_0, .int .i64 a0_1, .int .i64 a0_2] 75 (0, 0)) u113_ hb); replace HB := am_ (below_step u42_ hb); (try clear hb); (try clear hb2); (try clear hk); (try clear hi); (try clear ho0)) | ((with_reducible refine gate_callee (f := 92) rfl ?_); refine goesL_ (some 20) rfl rfl Tryd.func92 u23_ rfl #[.string a1] rfl u1_ ?_; (with_reducible refine (spec_l2Text.calls k a1 true _ A5.out).mono ?_); rintro e w' ⟨rfl, ⟨nd, rfl⟩⟩; refine ⟨_, rfl, ?_⟩; have hcz19_0 : w18.cell? ⟨gb402, 0, none⟩ = some (.string a0_0) := (blk_cell BK402.out 0).trans rfl; have hcz19_1 : w18.cell? ⟨gb402, 1, none⟩ = some (.int .i64 a0_1) := (blk_cell BK402.out 1).trans rfl; have hcz19_2 : w18.cell? ⟨gb402, 2, none⟩ = some (.int .i64 a0_2) := (blk_cell BK402.out 2).trans rfl; have hfz19_0 := blk_frozen BK402.out 0; have hfz19_1 := blk_frozen BK402.out 1; have hfz19_2 := blk_frozen BK402.out 2))
      go_ret
      exact ⟨u6_, u42_⟩
     ·rw [if_neg c16] at H; have c16b0 : (a0_1 == 3) = false := beq_eq_false_iff_ne.mpr c16; have c16b1 : (a0_1 != 3) = true := bne_iff_ne.mpr c16; obtain rfl := Option.some.inj H; go_enter Tryd.func64, Tryd.ntmps64
      go_wp2_with (first | ((with_reducible refine gate_dst (N := 2) rfl ?_); refine box_event ?hg (N := 2) ?hd (cs := #[.string a0_0, .int .i64 a0_1, .int .i64 a0_2]) (t := 75) ?hr ?_; (case hd => rfl); (case hg => rfl); (case hr => exact u33_); intro gb402 hg w20 hbox hb; have BK402 := am_ (hbox); have GW402 := am_ ((by rw [hg]; exact (below_size u2_) : w.heap.size ≤ gb402)); have GE402 := GW402; replace HB := am_ (below_step u2_ hb); clear hb hbox hg) | ((with_reducible refine gate_callee (f := 90) rfl ?_); refine goesL_ (some 11) rfl rfl Tryd.func90 u23_ rfl #[.string a1] rfl u1_ ?_; (with_reducible refine (spec_l1Number.calls k a1 t403 false _ A3.out).mono ?_); rintro e w' ⟨rfl, ⟨nd, rfl⟩⟩; refine ⟨_, rfl, ?_⟩) | ((with_reducible refine gate_callee (f := 91) rfl ?_); refine goesL_ (some 16) rfl rfl Tryd.func91 u23_ rfl #[.string a1] rfl u1_ ?_; (with_reducible refine (spec_l2Tags.calls k a1 t405 t406 _ A4.out).mono ?_); rintro e w21 ⟨v407, rfl, ho0, hb⟩; refine ⟨_, rfl, ?_⟩; have HO408 := am_ (Kd.R_lower ho0 (below_size u42_)); replace BK402 := am_ (blk_below (g := gb402) (o := .cells #[.string a0_0, .int .i64 a0_1, .int .i64 a0_2] 75 (0, 0)) u113_ hb); replace HB := am_ (below_step u42_ hb); (try clear hb); (try clear hb2); (try clear hk); (try clear hi); (try clear ho0)) | ((with_reducible refine gate_callee (f := 92) rfl ?_); refine goesL_ (some 20) rfl rfl Tryd.func92 u23_ rfl #[.string a1] rfl u1_ ?_; (with_reducible refine (spec_l2Text.calls k a1 true _ A5.out).mono ?_); rintro e w' ⟨rfl, ⟨nd, rfl⟩⟩; refine ⟨_, rfl, ?_⟩; have hcz22_0 : w21.cell? ⟨gb402, 0, none⟩ = some (.string a0_0) := (blk_cell BK402.out 0).trans rfl; have hcz22_1 : w21.cell? ⟨gb402, 1, none⟩ = some (.int .i64 a0_1) := (blk_cell BK402.out 1).trans rfl; have hcz22_2 : w21.cell? ⟨gb402, 2, none⟩ = some (.int .i64 a0_2) := (blk_cell BK402.out 2).trans rfl; have hfz22_0 := blk_frozen BK402.out 0; have hfz22_1 := blk_frozen BK402.out 1; have hfz22_2 := blk_frozen BK402.out 2))
      go_ret
      exact ⟨u6_, u42_⟩
   ·rw [if_neg c11] at H; have c11b0 : (a0_1 == 2) = false := beq_eq_false_iff_ne.mpr c11; have c11b1 : (a0_1 != 2) = true := bne_iff_ne.mpr c11; by_cases c23 : a0_1 = 3
    ·rw [if_pos c23] at H; have c23b0 : (a0_1 == 3) = true := beq_iff_eq.mpr c23; have c23b1 : (a0_1 != 3) = false := bne_eq_false_iff_eq.mpr c23; clear c23; obtain rfl := Option.some.inj H; go_enter Tryd.func64, Tryd.ntmps64
     go_wp2_with (first | ((with_reducible refine gate_dst (N := 2) rfl ?_); refine box_event ?hg (N := 2) ?hd (cs := #[.string a0_0, .int .i64 a0_1, .int .i64 a0_2]) (t := 75) ?hr ?_; (case hd => rfl); (case hg => rfl); (case hr => exact u33_); intro gb402 hg w24 hbox hb; have BK402 := am_ (hbox); have GW402 := am_ ((by rw [hg]; exact (below_size u2_) : w.heap.size ≤ gb402)); have GE402 := GW402; replace HB := am_ (below_step u2_ hb); clear hb hbox hg) | ((with_reducible refine gate_callee (f := 90) rfl ?_); refine goesL_ (some 11) rfl rfl Tryd.func90 u23_ rfl #[.string a1] rfl u1_ ?_; (with_reducible refine (spec_l1Number.calls k a1 t403 t404 _ A3.out).mono ?_); rintro e w' ⟨rfl, ⟨nd, rfl⟩⟩; refine ⟨_, rfl, ?_⟩) | ((with_reducible refine gate_callee (f := 91) rfl ?_); refine goesL_ (some 16) rfl rfl Tryd.func91 u23_ rfl #[.string a1] rfl u1_ ?_; (with_reducible refine (spec_l2Tags.calls k a1 t405 t406 _ A4.out).mono ?_); rintro e w25 ⟨v407, rfl, ho0, hb⟩; refine ⟨_, rfl, ?_⟩; have HO408 := am_ (Kd.R_lower ho0 (below_size u42_)); replace BK402 := am_ (blk_below (g := gb402) (o := .cells #[.string a0_0, .int .i64 a0_1, .int .i64 a0_2] 75 (0, 0)) u113_ hb); replace HB := am_ (below_step u42_ hb); (try clear hb); (try clear hb2); (try clear hk); (try clear hi); (try clear ho0)) | ((with_reducible refine gate_callee (f := 92) rfl ?_); refine goesL_ (some 20) rfl rfl Tryd.func92 u23_ rfl #[.string a1] rfl u1_ ?_; (with_reducible refine (spec_l2Text.calls k a1 true _ A5.out).mono ?_); rintro e w' ⟨rfl, ⟨nd, rfl⟩⟩; refine ⟨_, rfl, ?_⟩; have hcz26_0 : w25.cell? ⟨gb402, 0, none⟩ = some (.string a0_0) := (blk_cell BK402.out 0).trans rfl; have hcz26_1 : w25.cell? ⟨gb402, 1, none⟩ = some (.int .i64 a0_1) := (blk_cell BK402.out 1).trans rfl; have hcz26_2 : w25.cell? ⟨gb402, 2, none⟩ = some (.int .i64 a0_2) := (blk_cell BK402.out 2).trans rfl; have hfz26_0 := blk_frozen BK402.out 0; have hfz26_1 := blk_frozen BK402.out 1; have hfz26_2 := blk_frozen BK402.out 2))
     go_ret
     exact ⟨u6_, u42_⟩
    ·rw [if_neg c23] at H; have c23b0 : (a0_1 == 3) = false := beq_eq_false_iff_ne.mpr c23; have c23b1 : (a0_1 != 3) = true := bne_iff_ne.mpr c23; obtain rfl := Option.some.inj H; go_enter Tryd.func64, Tryd.ntmps64
     go_wp2_with (first | ((with_reducible refine gate_dst (N := 2) rfl ?_); refine box_event ?hg (N := 2) ?hd (cs := #[.string a0_0, .int .i64 a0_1, .int .i64 a0_2]) (t := 75) ?hr ?_; (case hd => rfl); (case hg => rfl); (case hr => exact u33_); intro gb402 hg w27 hbox hb; have BK402 := am_ (hbox); have GW402 := am_ ((by rw [hg]; exact (below_size u2_) : w.heap.size ≤ gb402)); have GE402 := GW402; replace HB := am_ (below_step u2_ hb); clear hb hbox hg) | ((with_reducible refine gate_callee (f := 90) rfl ?_); refine goesL_ (some 11) rfl rfl Tryd.func90 u23_ rfl #[.string a1] rfl u1_ ?_; (with_reducible refine (spec_l1Number.calls k a1 t403 t404 _ A3.out).mono ?_); rintro e w' ⟨rfl, ⟨nd, rfl⟩⟩; refine ⟨_, rfl, ?_⟩) | ((with_reducible refine gate_callee (f := 91) rfl ?_); refine goesL_ (some 16) rfl rfl Tryd.func91 u23_ rfl #[.string a1] rfl u1_ ?_; (with_reducible refine (spec_l2Tags.calls k a1 t405 t406 _ A4.out).mono ?_); rintro e w28 ⟨v407, rfl, ho0, hb⟩; refine ⟨_, rfl, ?_⟩; have HO408 := am_ (Kd.R_lower ho0 (below_size u42_)); replace BK402 := am_ (blk_below (g := gb402) (o := .cells #[.string a0_0, .int .i64 a0_1, .int .i64 a0_2] 75 (0, 0)) u113_ hb); replace HB := am_ (below_step u42_ hb); (try clear hb); (try clear hb2); (try clear hk); (try clear hi); (try clear ho0)) | ((with_reducible refine gate_callee (f := 92) rfl ?_); refine goesL_ (some 20) rfl rfl Tryd.func92 u23_ rfl #[.string a1] rfl u1_ ?_; (with_reducible refine (spec_l2Text.calls k a1 true _ A5.out).mono ?_); rintro e w' ⟨rfl, ⟨nd, rfl⟩⟩; refine ⟨_, rfl, ?_⟩; have hcz29_0 : w28.cell? ⟨gb402, 0, none⟩ = some (.string a0_0) := (blk_cell BK402.out 0).trans rfl; have hcz29_1 : w28.cell? ⟨gb402, 1, none⟩ = some (.int .i64 a0_1) := (blk_cell BK402.out 1).trans rfl; have hcz29_2 : w28.cell? ⟨gb402, 2, none⟩ = some (.int .i64 a0_2) := (blk_cell BK402.out 2).trans rfl; have hfz29_0 := blk_frozen BK402.out 0; have hfz29_1 := blk_frozen BK402.out 1; have hfz29_2 := blk_frozen BK402.out 2))
     go_ret
     exact ⟨u6_, u42_⟩
 ·replace c6 := Bool.eq_false_iff.mpr c6; subst c6; rw [if_neg (show ¬ (false = true) by decide)] at H; obtain rfl := Option.some.inj H; go_enter Tryd.func64, Tryd.ntmps64
  go_wp2_with (first | ((with_reducible refine gate_dst (N := 2) rfl ?_); refine box_event ?hg (N := 2) ?hd (cs := #[.string a0_0, .int .i64 a0_1, .int .i64 a0_2]) (t := 75) ?hr ?_; (case hd => rfl); (case hg => rfl); (case hr => exact u33_); intro gb402 hg w30 hbox hb; have BK402 := am_ (hbox); have GW402 := am_ ((by rw [hg]; exact (below_size u2_) : w.heap.size ≤ gb402)); have GE402 := GW402; replace HB := am_ (below_step u2_ hb); clear hb hbox hg) | ((with_reducible refine gate_callee (f := 90) rfl ?_); refine goesL_ (some 11) rfl rfl Tryd.func90 u23_ rfl #[.string a1] rfl u1_ ?_; (with_reducible refine (spec_l1Number.calls k a1 t403 t404 _ A3.out).mono ?_); rintro e w' ⟨rfl, ⟨nd, rfl⟩⟩; refine ⟨_, rfl, ?_⟩) | ((with_reducible refine gate_callee (f := 91) rfl ?_); refine goesL_ (some 16) rfl rfl Tryd.func91 u23_ rfl #[.string a1] rfl u1_ ?_; (with_reducible refine (spec_l2Tags.calls k a1 t405 t406 _ A4.out).mono ?_); rintro e w31 ⟨v407, rfl, ho0, hb⟩; refine ⟨_, rfl, ?_⟩; have HO408 := am_ (Kd.R_lower ho0 (below_size u42_)); replace BK402 := am_ (blk_below (g := gb402) (o := .cells #[.string a0_0, .int .i64 a0_1, .int .i64 a0_2] 75 (0, 0)) u113_ hb); replace HB := am_ (below_step u42_ hb); (try clear hb); (try clear hb2); (try clear hk); (try clear hi); (try clear ho0)) | ((with_reducible refine gate_callee (f := 92) rfl ?_); refine goesL_ (some 20) rfl rfl Tryd.func92 u23_ rfl #[.string a1] rfl u1_ ?_; (with_reducible refine (spec_l2Text.calls k a1 false _ A5.out).mono ?_); rintro e w' ⟨rfl, ⟨nd, rfl⟩⟩; refine ⟨_, rfl, ?_⟩))
  go_ret
  exact ⟨u6_, u42_⟩

end Go.Proofs.YtelcdhjdlgedeaaDoor.PFnDocOk
