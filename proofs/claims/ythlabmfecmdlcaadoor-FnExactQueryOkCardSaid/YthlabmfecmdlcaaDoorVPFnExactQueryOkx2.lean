/- Contracts of Go functions that the law FnExactQueryOk reaches: each is told as a plain Lean function, with the walk that shows it; no condition beyond what each states. Written by a program of this session round the kit's printer. -/
import Derived.Test.YthlabmfecmdlcaaDoorVPFnExactQueryOkx0
import Derived.Test.YthlabmfecmdlcaaDoorVPFnExactQueryOkx1
namespace Go.Proofs.YthlabmfecmdlcaaDoor.PFnExactQueryOk
open Go.RowKit Go.Proofs.YthlabmfecmdlcaaDoorW.PrintWords Go.Proofs.YthlabmfecmdlcaaDoorW.PrintLast Go.Proofs.YthlabmfecmdlcaaDoorW.PrintMore
attribute [local go_sem] isSome_setCell run_str_geq run_str_leq max2_int min2_int max_two min_two max_three min_three max_four min_four   -- for this text's walks alone
set_option linter.unusedVariables false
set_option linter.unusedSimpArgs false

/-! ### spec_Words: function 32 -/
mutual
def spec_Words.l0 : Nat → ByteArray → List (S51) → Int → Option ((List (S51)))
 | 0, _, _, _ => none
 | k + 1, x0, x3, x4 => if x4 < (x0.size : Int) then (spec_Words.l1 k x0 x3 x4 x4) else (some x3)
def spec_Words.l1 : Nat → ByteArray → List (S51) → Int → Int → Option ((List (S51)))
 | 0, _, _, _, _ => none
 | k + 1, x0, x3, x4, x5 => if x5 < (x0.size : Int) then (if 0 ≤ x5 then ((spec_l1Part.f (bt x0 x5)).bind fun t110 => (if t110 = true then (spec_Words.l1 k x0 x3 x4 (wrap64 (x5 + 1))) else (if x5 = x4 then (spec_Words.l0 k x0 x3 (wrap64 (x4 + 1))) else (if 0 ≤ x4 then (if x4 ≤ x5 then (if x5 ≤ (x0.size : Int) then (if x3.length < 4398046511104 then (spec_Words.l0 k x0 (x3 ++ [(⟨x0.extract (x4 : Int).toNat (x5 : Int).toNat, x4, x5⟩ : S51)]) x5) else (none)) else (none)) else (none)) else (none))))) else (none)) else (if x5 = x4 then (spec_Words.l0 k x0 x3 (wrap64 (x4 + 1))) else (if 0 ≤ x4 then (if x4 ≤ x5 then (if x5 ≤ (x0.size : Int) then (if x3.length < 4398046511104 then (spec_Words.l0 k x0 (x3 ++ [(⟨x0.extract (x4 : Int).toNat (x5 : Int).toNat, x4, x5⟩ : S51)]) x5) else (none)) else (none)) else (none)) else (none)))
end
def spec_Words.f (k : Nat) (a0 : ByteArray) : Option ((List (S51))) := spec_Words.l0 k a0 (([] : List (S51))) 0
theorem spec_Words.mono_l : ∀ k, (∀ y0 y1 y2, LeO (spec_Words.l0 k y0 y1 y2) (spec_Words.l0 (k + 1) y0 y1 y2)) ∧ (∀ y0 y1 y2 y3, LeO (spec_Words.l1 k y0 y1 y2 y3) (spec_Words.l1 (k + 1) y0 y1 y2 y3))
 | 0 => ⟨fun _ _ _ r h => by simp [spec_Words.l0] at h, fun _ _ _ _ r h => by simp [spec_Words.l1] at h⟩
 | k + 1 => by
  obtain ⟨ih0, ih1⟩ := spec_Words.mono_l k; refine ⟨?_, ?_⟩
  ·intro y0 y1 y2; unfold spec_Words.l0
   repeat' first
   | (with_reducible exact ih0 _ _ _)
   | (with_reducible exact ih1 _ _ _ _)
   | (with_reducible exact LeO.refl _)
   | (with_reducible exact LeO.none _)
   | (with_reducible refine LeO.ite ?_ ?_)
   | (with_reducible refine LeO.bind ?_ (fun _ => ?_))
   | exact ih0 _ _ _
   | exact ih1 _ _ _ _
   | exact LeO.none _
   | refine LeO.ite ?_ ?_
   | refine LeO.bind ?_ (fun _ => ?_)
  ·intro y0 y1 y2 y3; unfold spec_Words.l1
   repeat' first
   | (with_reducible exact ih0 _ _ _)
   | (with_reducible exact ih1 _ _ _ _)
   | (with_reducible exact LeO.refl _)
   | (with_reducible exact LeO.none _)
   | (with_reducible refine LeO.ite ?_ ?_)
   | (with_reducible refine LeO.bind ?_ (fun _ => ?_))
   | exact ih0 _ _ _
   | exact ih1 _ _ _ _
   | exact LeO.none _
   | refine LeO.ite ?_ ?_
   | refine LeO.bind ?_ (fun _ => ?_)
theorem spec_Words.mono : ∀ a0 k, LeO (spec_Words.f k a0) (spec_Words.f (k + 1) a0) := by
 intro a0 k; obtain ⟨ih0, ih1⟩ := spec_Words.mono_l k; unfold spec_Words.f
 repeat' first
   | (with_reducible exact ih0 _ _ _)
   | (with_reducible exact ih1 _ _ _ _)
   | (with_reducible exact LeO.refl _)
   | (with_reducible exact LeO.none _)
   | (with_reducible refine LeO.ite ?_ ?_)
   | (with_reducible refine LeO.bind ?_ (fun _ => ?_))
   | exact ih0 _ _ _
   | exact ih1 _ _ _ _
   | exact LeO.none _
   | refine LeO.ite ?_ ?_
   | refine LeO.bind ?_ (fun _ => ?_)
set_option maxHeartbeats 8000000 in
set_option maxRecDepth 100000 in
theorem spec_Words.calls (k : Nat) (a0 : ByteArray) (r : List (S51)) (w : World) (h : spec_Words.f k a0 = some r) :
  Calls Tryd.prog 32 #[.string a0] w fun e w' => ∃ v0_ : Value, e = .returned (v0_) ∧ Kd.R k51 51 w' w.heap.size (fun _ => True) v0_ r ∧ Below w.heap.size w w' := by
 have hu51 := Tryd.underlying51; have HB := am_ (Below.refl w.heap.size w); have H : (spec_Words.l0 k a0 (([] : List (S51))) 0) = some r := h; clear h; obtain ⟨y107, hy107⟩ : ∃ y_ : List (S51), y_ = (([] : List (S51))) := ⟨_, rfl⟩; replace H : (spec_Words.l0 k a0 y107 0) = some r := by first | (rw [hy107]; with_reducible exact H) | (have H2_ := (Option.bind_some _ _).symm.trans H; rw [hy107]; with_reducible exact H2_) | (have H2_ := (Option.bind_some _ _).symm.trans H; with_reducible exact H2_) | with_reducible exact H | (rw [hy107]; exact H) | exact H
 have Ny107 := am_ hy107; clear hy107; have H' := am_ H; clear H; go_enter Tryd.func32, Tryd.ntmps32
 go_wp2_with (first | ((with_reducible refine gate_dst (N := 6) rfl ?_); refine Kd.R_lit k51 _ 51 ?hg (N := 6) ?hd (xs := ([] : List (S51))) (inner := []) (ok := fun _ => True) (okp := fun _ => True) ?hr ?hp (fun _ hk => hk) trivial (Below.refl _ _) (Nat.le_refl _) u51_ ?_; (case hd => rfl); (case hg => rfl); (case hr => exact u26_); (case hp => exact (Reps.none _ _)); intro v108 w2 ho3 hb hg_ hnew_; clear hg_ hnew_; (first | rw [← Ny107.out] at ho3 | (simp only [Int.reduceToNat] at ho3; rw [← Ny107.out] at ho3)); have HO109 := am_ (Kd.R_lower ho3 (below_size u1_)); replace HB := am_ (below_step u1_ hb); clear hb ho3))
 go_loopg [3, 4] k (fun kq v3 v4 w' => ∃ (x3_1 : List (S51)) (x4_1 : Int), v4 = .int .i64 x4_1 ∧ Aside0 (spec_Words.l0 kq a0 x3_1 x4_1 = some r) ∧ Aside0 (kq ≤ k) ∧ Aside0 (Kd.R k51 51 w' w.heap.size (fun _ => True) v3 x3_1) ∧ Aside0 (Below w.heap.size w w'))
 case atStart => exact ⟨(y107), (0), u20_, H', ⟨Nat.le_refl _⟩, ⟨by (with_reducible repeat (first | apply Kd.R_alloc | apply Kd.R_drewN | apply Kd.R_drew)); exact HO109.out⟩, ⟨u1_⟩⟩
 case round =>
  clear H'; try clear p2
  try clear c3
  obtain ⟨x3_1, x4_1, rfl, HA, HK1, HO_3, HB⟩ := hrel; cases gk with
  | zero => exact absurd HA.out (by simp [spec_Words.l0])
  | succ k1 =>
   have H := HA.out; clear HA; simp only [spec_Words.l0] at H; by_cases c4 : x4_1 < (a0.size : Int)
   ·rw [if_pos c4] at H; have c4b0 : decide (x4_1 < (a0.size : Int)) = true := decide_eq_true c4; clear c4; have H' := am_ H; clear H; go_wp2; go_loopg [5] k1 (fun kq v5 w' => ∃ (x5_2 : Int), v5 = .int .i64 x5_2 ∧ Aside0 (spec_Words.l1 kq a0 x3_1 x4_1 x5_2 = some r) ∧ Aside0 (kq ≤ k1) ∧ Aside0 (Kd.R k51 51 w' w.heap.size (fun _ => True) u3 x3_1) ∧ Aside0 (Below w.heap.size w w'))
    case atStart => exact ⟨(x4_1), u20_, H', ⟨Nat.le_refl _⟩, ⟨u27_⟩, ⟨u1_⟩⟩
    case round =>
     clear H'; try clear p2
     try clear c3
     try clear c4
     try clear c4b0
     try clear p2
     obtain ⟨x5_2, rfl, HA, HK2, HO_3, HB⟩ := hrel; cases gk with
     | zero => exact absurd HA.out (by simp [spec_Words.l1])
     | succ k2 =>
      have H := HA.out; clear HA; simp only [spec_Words.l1] at H; by_cases c5 : x5_2 < (a0.size : Int)
      ·rw [if_pos c5] at H; have c5b0 : decide (x5_2 < (a0.size : Int)) = true := decide_eq_true c5; clear c5; by_cases c6 : 0 ≤ x5_2
       ·rw [if_pos c6] at H; have c6b0 : decide (0 ≤ x5_2) = true := decide_eq_true c6; clear c6; replace H := Option.bind_eq_some_iff.mp H; obtain ⟨t110, A80, H⟩ := H; replace H : (if t110 = true then (spec_Words.l1 k2 a0 x3_1 x4_1 (wrap64 (x5_2 + 1))) else (if x5_2 = x4_1 then (spec_Words.l0 k2 a0 x3_1 (wrap64 (x4_1 + 1))) else (if 0 ≤ x4_1 then (if x4_1 ≤ x5_2 then (if x5_2 ≤ (a0.size : Int) then (if x3_1.length < 4398046511104 then (spec_Words.l0 k2 a0 (x3_1 ++ [(⟨a0.extract (x4_1 : Int).toNat (x5_2 : Int).toNat, x4_1, x5_2⟩ : S51)]) x5_2) else (none)) else (none)) else (none)) else (none)))) = some r := H; have A8 := am_ A80; clear A80; by_cases c9 : t110 = true
        ·subst c9; rw [if_pos rfl] at H; have H' := am_ H; clear H; have p7 : 0 ≤ (x5_2 : Int) := of_decide_eq_true u7_; have q7 : x5_2 < (a0.size : Int) := of_decide_eq_true u7_; have hx7 := bt_at a0 x5_2; replace p7 := eq_true p7; replace q7 := eq_true q7; go_wp2_with (first | (go_at_call 37; (with_reducible refine (spec_l1Part.calls (bt a0 x5_2) true _ A8.out).mono ?_); rintro e w' ⟨rfl, ⟨nd, rfl⟩⟩))
         go_roundg k2
         case measure => have := HK1.out; have := HK2.out; omega
         case rel => exact ⟨(wrap64 (x5_2 + 1)), u20_, H', ⟨u72_⟩, ⟨u27_⟩, ⟨u1_⟩⟩
        ·replace c9 := Bool.eq_false_iff.mpr c9; subst c9; rw [if_neg (show ¬ (false = true) by decide)] at H; by_cases c10 : x5_2 = x4_1
         ·rw [if_pos c10] at H; have c10b0 : (x5_2 == x4_1) = true := beq_iff_eq.mpr c10; have c10b1 : (x5_2 != x4_1) = false := bne_eq_false_iff_eq.mpr c10; clear c10; have H' := am_ H; clear H; have p7 : 0 ≤ (x5_2 : Int) := of_decide_eq_true u7_; have q7 : x5_2 < (a0.size : Int) := of_decide_eq_true u7_; have hx7 := bt_at a0 x5_2; replace p7 := eq_true p7; replace q7 := eq_true q7; go_wp2_with (first | (go_at_call 37; (with_reducible refine (spec_l1Part.calls (bt a0 x5_2) false _ A8.out).mono ?_); rintro e w' ⟨rfl, ⟨nd, rfl⟩⟩))
          go_roundg k2
          case measure => have := HK1.out; have := HK2.out; omega
          case rel => exact ⟨(x3_1), (wrap64 (x4_1 + 1)), u20_, H', ⟨u72_⟩, ⟨u27_⟩, ⟨u1_⟩⟩
         ·rw [if_neg c10] at H; have c10b0 : (x5_2 == x4_1) = false := beq_eq_false_iff_ne.mpr c10; have c10b1 : (x5_2 != x4_1) = true := bne_iff_ne.mpr c10; by_cases c11 : 0 ≤ x4_1
          ·rw [if_pos c11] at H; have c11b0 := eq_true c11; have c11b1 : decide (0 ≤ x4_1) = true := decide_eq_true c11; clear c11; by_cases c12 : x4_1 ≤ x5_2
           ·rw [if_pos c12] at H; have c12b0 := eq_true c12; have c12b1 : decide (x4_1 ≤ x5_2) = true := decide_eq_true c12; clear c12; by_cases c13 : x5_2 ≤ (a0.size : Int)
            ·rw [if_pos c13] at H; have c13b0 := eq_true c13; have c13b1 : decide (x5_2 ≤ (a0.size : Int)) = true := decide_eq_true c13; clear c13; by_cases c14 : x3_1.length < 4398046511104
             ·rw [if_pos c14] at H; have LMc14 := am_ c14; clear c14; obtain ⟨y111, hy111⟩ : ∃ y_ : List (S51), y_ = (x3_1 ++ [(⟨a0.extract (x4_1 : Int).toNat (x5_2 : Int).toNat, x4_1, x5_2⟩ : S51)]) := ⟨_, rfl⟩; replace H : (spec_Words.l0 k2 a0 y111 x5_2) = some r := by first | (rw [hy111]; with_reducible exact H) | (have H2_ := (Option.bind_some _ _).symm.trans H; rw [hy111]; with_reducible exact H2_) | (have H2_ := (Option.bind_some _ _).symm.trans H; with_reducible exact H2_) | with_reducible exact H | (rw [hy111]; exact H) | exact H
              have Ny111 := am_ hy111; clear hy111; have H' := am_ H; clear H; have p7 : 0 ≤ (x5_2 : Int) := of_decide_eq_true u7_; have q7 : x5_2 < (a0.size : Int) := of_decide_eq_true u7_; have hx7 := bt_at a0 x5_2; replace p7 := eq_true p7; replace q7 := eq_true q7; go_wp2_with (first | (go_at_call 37; (with_reducible refine (spec_l1Part.calls (bt a0 x5_2) false _ A8.out).mono ?_); rintro e w' ⟨rfl, ⟨nd, rfl⟩⟩) | ((with_reducible refine gate_builtin (b := .append) (xs := #[.tmp 29, .tmp 37]) rfl ?_); at_builtin; refine Kd.R_append k51 (w0 := w) w.heap.size rfl (.tmp 29) (.tmp 37) 48 51 (.agg #[(.string ⟨#[]⟩), (.int .i64 0), (.int .i64 0)]) 32 rfl Tryd.underlying48 info51 rfl u73_ u52_ u3 x3_1 (⟨a0.extract (x4_1 : Int).toNat (x5_2 : Int).toNat, x4_1, x5_2⟩ : S51) [.string (a0.extract (x4_1 : Int).toNat (x5_2 : Int).toNat), .int .i64 x4_1, .int .i64 x5_2] (fun _ => True) (fun _ => False) rfl rfl ?aP (fun _ hk => hk.elim) ?aF ?aO ?aB ?aS ?aL ?_; (case aP => exact k51_mkM _ _ _ (⟨a0.extract (x4_1 : Int).toNat (x5_2 : Int).toNat, x4_1, x5_2⟩ : S51)); (case aB => exact u1_); (case aF => exact (fun _ _ => trivial)); (case aO => exact u27_); (case aS => exact (below_size u1_)); (case aL => have := LMc14.out; omega); intro v112 w15 ho hb hg hat; rw [← Ny111.out] at ho; replace HB := am_ (hb); have HO113 := am_ (ho); clear HO_3 ho hb hg hat))
              go_roundg k2
              case measure => have := HK1.out; have := HK2.out; omega
              case rel => exact ⟨(y111), (x5_2), u20_, H', ⟨u72_⟩, ⟨by (with_reducible repeat (first | apply Kd.R_alloc | apply Kd.R_drewN | apply Kd.R_drew)); exact HO113.out⟩, ⟨u1_⟩⟩
             ·rw [if_neg c14] at H; exact absurd H u51_
            ·rw [if_neg c13] at H; exact absurd H u51_
           ·rw [if_neg c12] at H; exact absurd H u51_
          ·exact u83_
       ·exact u85_
      ·rw [if_neg c5] at H; have c5b0 : decide (x5_2 < (a0.size : Int)) = false := decide_eq_false c5; clear c5; by_cases c16 : x5_2 = x4_1
       ·rw [if_pos c16] at H; have c16b0 : (x5_2 == x4_1) = true := beq_iff_eq.mpr c16; have c16b1 : (x5_2 != x4_1) = false := bne_eq_false_iff_eq.mpr c16; clear c16; have H' := am_ H; clear H; go_wp2; go_roundg k2
        case measure => have := HK1.out; have := HK2.out; omega
        case rel => exact ⟨(x3_1), (wrap64 (x4_1 + 1)), u20_, H', ⟨u72_⟩, ⟨u27_⟩, ⟨u1_⟩⟩
       ·rw [if_neg c16] at H; have c16b0 : (x5_2 == x4_1) = false := beq_eq_false_iff_ne.mpr c16; have c16b1 : (x5_2 != x4_1) = true := bne_iff_ne.mpr c16; by_cases c17 : 0 ≤ x4_1
        ·rw [if_pos c17] at H; have c17b0 := eq_true c17; have c17b1 : decide (0 ≤ x4_1) = true := decide_eq_true c17; clear c17; by_cases c18 : x4_1 ≤ x5_2
         ·rw [if_pos c18] at H; have c18b0 := eq_true c18; have c18b1 : decide (x4_1 ≤ x5_2) = true := decide_eq_true c18; clear c18; by_cases c19 : x5_2 ≤ (a0.size : Int)
          ·rw [if_pos c19] at H; have c19b0 := eq_true c19; have c19b1 : decide (x5_2 ≤ (a0.size : Int)) = true := decide_eq_true c19; clear c19; by_cases c20 : x3_1.length < 4398046511104
           ·rw [if_pos c20] at H; have LMc20 := am_ c20; clear c20; obtain ⟨y114, hy114⟩ : ∃ y_ : List (S51), y_ = (x3_1 ++ [(⟨a0.extract (x4_1 : Int).toNat (x5_2 : Int).toNat, x4_1, x5_2⟩ : S51)]) := ⟨_, rfl⟩; replace H : (spec_Words.l0 k2 a0 y114 x5_2) = some r := by first | (rw [hy114]; with_reducible exact H) | (have H2_ := (Option.bind_some _ _).symm.trans H; rw [hy114]; with_reducible exact H2_) | (have H2_ := (Option.bind_some _ _).symm.trans H; with_reducible exact H2_) | with_reducible exact H | (rw [hy114]; exact H) | exact H
            have Ny114 := am_ hy114; clear hy114; have H' := am_ H; clear H; go_wp2_with (first | ((with_reducible refine gate_builtin (b := .append) (xs := #[.tmp 29, .tmp 37]) rfl ?_); at_builtin; refine Kd.R_append k51 (w0 := w) w.heap.size rfl (.tmp 29) (.tmp 37) 48 51 (.agg #[(.string ⟨#[]⟩), (.int .i64 0), (.int .i64 0)]) 32 rfl Tryd.underlying48 info51 rfl u73_ u52_ u3 x3_1 (⟨a0.extract (x4_1 : Int).toNat (x5_2 : Int).toNat, x4_1, x5_2⟩ : S51) [.string (a0.extract (x4_1 : Int).toNat (x5_2 : Int).toNat), .int .i64 x4_1, .int .i64 x5_2] (fun _ => True) (fun _ => False) rfl rfl ?aP (fun _ hk => hk.elim) ?aF ?aO ?aB ?aS ?aL ?_; (case aP => exact k51_mkM _ _ _ (⟨a0.extract (x4_1 : Int).toNat (x5_2 : Int).toNat, x4_1, x5_2⟩ : S51)); (case aB => exact u1_); (case aF => exact (fun _ _ => trivial)); (case aO => exact u27_); (case aS => exact (below_size u1_)); (case aL => have := LMc20.out; omega); intro v115 w21 ho hb hg hat; rw [← Ny114.out] at ho; replace HB := am_ (hb); have HO116 := am_ (ho); clear HO_3 ho hb hg hat))
            go_roundg k2
            case measure => have := HK1.out; have := HK2.out; omega
            case rel => exact ⟨(y114), (x5_2), u20_, H', ⟨u72_⟩, ⟨by (with_reducible repeat (first | apply Kd.R_alloc | apply Kd.R_drewN | apply Kd.R_drew)); exact HO116.out⟩, ⟨u1_⟩⟩
           ·rw [if_neg c20] at H; exact absurd H u51_
          ·rw [if_neg c19] at H; exact absurd H u51_
         ·rw [if_neg c18] at H; exact absurd H u51_
        ·rw [if_neg c17] at H; exact absurd H u51_
   ·rw [if_neg c4] at H; have c4b0 : decide (x4_1 < (a0.size : Int)) = false := decide_eq_false c4; clear c4; obtain rfl := Option.some.inj H; go_wp2; go_ret
    exact ⟨_, u2_, u27_, u1_⟩

/-! ### spec_l5Words: function 23 -/
def spec_l5Words.l0 : Nat → ByteArray → List (S51) → ByteArray → Int → Option (Int)
 | 0, _, _, _, _ => none
 | k + 1, x0, x3, x4, x5 => if x5 < (x3.length : Int) then (if x5 > 0 then (if x4.size + 1 ≤ 9223372036854775807 then (if 0 ≤ x5 then (if (x4 ++ (⟨#[32]⟩ : ByteArray)).size + ((rd_T51 x3 x5).f0).size ≤ 9223372036854775807 then (spec_l5Words.l0 k x0 x3 ((x4 ++ (⟨#[32]⟩ : ByteArray)) ++ ((rd_T51 x3 x5).f0)) (wrap64 (x5 + 1))) else (none)) else (none)) else (none)) else (if 0 ≤ x5 then (if x4.size + ((rd_T51 x3 x5).f0).size ≤ 9223372036854775807 then (spec_l5Words.l0 k x0 x3 (x4 ++ ((rd_T51 x3 x5).f0)) (wrap64 (x5 + 1))) else (none)) else (none))) else (if x4.toList = x0.toList then (some (x3.length : Int)) else (some 0))
def spec_l5Words.f (k : Nat) (a0 : ByteArray) : Option (Int) := (spec_Words.f k a0).bind fun t117 => (spec_l5Words.l0 k a0 t117 (⟨#[]⟩ : ByteArray) 0)
theorem spec_l5Words.mono_l : ∀ k, (∀ y0 y1 y2 y3, LeO (spec_l5Words.l0 k y0 y1 y2 y3) (spec_l5Words.l0 (k + 1) y0 y1 y2 y3))
 | 0 => fun _ _ _ _ r h => by simp [spec_l5Words.l0] at h
 | k + 1 => by
  have ih0 := spec_l5Words.mono_l k
  ·intro y0 y1 y2 y3; unfold spec_l5Words.l0
   repeat' first
   | (with_reducible exact ih0 _ _ _ _)
   | (with_reducible exact spec_Words.mono _ _)
   | (with_reducible exact LeO.refl _)
   | (with_reducible exact LeO.none _)
   | (with_reducible refine LeO.ite ?_ ?_)
   | (with_reducible refine LeO.bind ?_ (fun _ => ?_))
   | exact ih0 _ _ _ _
   | exact spec_Words.mono _ _
   | exact LeO.none _
   | refine LeO.ite ?_ ?_
   | refine LeO.bind ?_ (fun _ => ?_)
theorem spec_l5Words.mono : ∀ a0 k, LeO (spec_l5Words.f k a0) (spec_l5Words.f (k + 1) a0) := by
 intro a0 k; have ih0 := spec_l5Words.mono_l k; unfold spec_l5Words.f
 repeat' first
   | (with_reducible exact ih0 _ _ _ _)
   | (with_reducible exact spec_Words.mono _ _)
   | (with_reducible exact LeO.refl _)
   | (with_reducible exact LeO.none _)
   | (with_reducible refine LeO.ite ?_ ?_)
   | (with_reducible refine LeO.bind ?_ (fun _ => ?_))
   | exact ih0 _ _ _ _
   | exact spec_Words.mono _ _
   | exact LeO.none _
   | refine LeO.ite ?_ ?_
   | refine LeO.bind ?_ (fun _ => ?_)
set_option maxHeartbeats 8000000 in
set_option maxRecDepth 100000 in
theorem spec_l5Words.calls (k : Nat) (a0 : ByteArray) (r : Int) (w : World) (h : spec_l5Words.f k a0 = some r) :
  Calls Tryd.prog 23 #[.string a0] w fun e w' => e = .returned (.int .i64 r) ∧ Below w.heap.size w w' := by
 have HB := am_ (Below.refl w.heap.size w); have H : ((spec_Words.f k a0).bind fun t117 => (spec_l5Words.l0 k a0 t117 (⟨#[]⟩ : ByteArray) 0)) = some r := h; clear h; replace H := Option.bind_eq_some_iff.mp H; obtain ⟨t117, A20, H⟩ := H; replace H : (spec_l5Words.l0 k a0 t117 (⟨#[]⟩ : ByteArray) 0) = some r := H; have A2 := am_ A20; clear A20; have H' := am_ H; clear H; go_enter Tryd.func23, Tryd.ntmps23
 go_wp2_with (first | ((with_reducible refine gate_callee (f := 32) rfl ?_); refine goesL_ (some 7) rfl rfl Tryd.func32 u8_ rfl #[.string a0] rfl u4_ ?_; (with_reducible refine (spec_Words.calls k a0 t117 _ A2.out).mono ?_); rintro e w3 ⟨v118, rfl, ho0, hb⟩; refine ⟨_, rfl, ?_⟩; have HO119 := am_ (Kd.R_lower ho0 (below_size u1_)); replace HB := am_ (below_step u1_ hb); (try clear hb); (try clear hb2); (try clear hk); (try clear hi); (try clear ho0)))
 go_loopg [4, 5] k (fun kq v4 v5 w' => ∃ (x4_1 : ByteArray) (x5_1 : Int), v4 = .string x4_1 ∧ v5 = .int .i64 x5_1 ∧ Aside0 (spec_l5Words.l0 kq a0 t117 x4_1 x5_1 = some r) ∧ Aside0 (kq ≤ k) ∧ Aside0 (Kd.R k51 51 w' w.heap.size (fun _ => True) v118 t117) ∧ Aside0 (Below w.heap.size w w'))
 case atStart => exact ⟨((⟨#[]⟩ : ByteArray)), (0), u20_, u20_, H', ⟨Nat.le_refl _⟩, ⟨by (with_reducible repeat (first | apply Kd.R_alloc | apply Kd.R_drewN | apply Kd.R_drew)); exact HO119.out⟩, ⟨u1_⟩⟩
 case round =>
  clear H'; try clear c2
  try clear p2
  try clear c3
  obtain ⟨x4_1, x5_1, rfl, rfl, HA, HK1, HO_3, HB⟩ := hrel; cases gk with
  | zero => exact absurd HA.out (by simp [spec_l5Words.l0])
  | succ k1 =>
   have H := HA.out; clear HA; simp only [spec_l5Words.l0] at H; by_cases c4 : x5_1 < (t117.length : Int)
   ·rw [if_pos c4] at H; have c4b0 : decide (x5_1 < (t117.length : Int)) = true := decide_eq_true c4; clear c4; by_cases c5 : x5_1 > 0
    ·rw [if_pos c5] at H; have c5b0 : decide (0 < x5_1) = true := decide_eq_true c5; clear c5; by_cases c6 : x4_1.size + 1 ≤ 9223372036854775807
     ·rw [if_pos c6] at H; have c6b0 := eq_true c6; have c6b1 : decide (x4_1.size + 1 ≤ 9223372036854775807) = true := decide_eq_true c6; try have c6b2 : (9223372036854775807 < x4_1.size + 1) = False := eq_false (Nat.not_lt.2 c6)
      by_cases c7 : 0 ≤ x5_1
      ·rw [if_pos c7] at H; have c7b0 : decide (0 ≤ x5_1) = true := decide_eq_true c7; clear c7; by_cases c8 : (x4_1 ++ (⟨#[32]⟩ : ByteArray)).size + ((rd_T51 t117 x5_1).f0).size ≤ 9223372036854775807
       ·rw [if_pos c8] at H; have c8b0 := eq_true c8; have c8b1 : decide ((x4_1 ++ (⟨#[32]⟩ : ByteArray)).size + ((rd_T51 t117 x5_1).f0).size ≤ 9223372036854775807) = true := decide_eq_true c8; try have c8b2 : (9223372036854775807 < (x4_1 ++ (⟨#[32]⟩ : ByteArray)).size + ((rd_T51 t117 x5_1).f0).size) = False := eq_false (Nat.not_lt.2 c8)
        try have c8b3 := c8; try simp only [ByteArray.size_append, size_lit, List.size_toArray, List.length_cons, List.length_nil, Nat.zero_add, Nat.reduceAdd] at c8b3; try have c8b4 := eq_true c8b3; try have c8b5 := decide_eq_true c8b3; try have c8b6 := eq_false (Nat.not_lt.2 c8b3)
        try have c8b7 := c8b3; try simp at c8b7; try have c8b8 := eq_true c8b7; try have c8b9 := decide_eq_true c8b7; try have c8bA := eq_false (Nat.not_lt.2 c8b7)
        have H' := am_ H; clear H; obtain ⟨Ao9, co9, eo9⟩ := Kd.R_slice HO_3.out; subst eo9; have p120 : 0 ≤ (x5_1 : Int) := of_decide_eq_true u7_; have q120 : x5_1 < (t117.length : Int) := of_decide_eq_true u7_; obtain ⟨ad120, e120, hx120_0, hx120_1, hx120_2⟩ := at_T51 (Kd.R_reads' HO_3.out).2.2 x5_1 p120 q120; cases e120; replace p120 := eq_true p120; replace q120 := eq_true q120; go_wp2; go_roundg k1
        case measure => have := HK1.out; omega
        case rel => exact ⟨((x4_1 ++ (⟨#[32]⟩ : ByteArray)) ++ ((rd_T51 t117 x5_1).f0)), (wrap64 (x5_1 + 1)), u20_, u20_, H', ⟨u44_⟩, ⟨u27_⟩, ⟨u1_⟩⟩
       ·rw [if_neg c8] at H; exact absurd H u51_
      ·rw [if_neg c7] at H; exact absurd H u51_
     ·exact u85_
    ·rw [if_neg c5] at H; have c5b0 : decide (0 < x5_1) = false := decide_eq_false c5; clear c5; by_cases c10 : 0 ≤ x5_1
     ·rw [if_pos c10] at H; have c10b0 : decide (0 ≤ x5_1) = true := decide_eq_true c10; clear c10; by_cases c11 : x4_1.size + ((rd_T51 t117 x5_1).f0).size ≤ 9223372036854775807
      ·rw [if_pos c11] at H; have c11b0 := eq_true c11; have c11b1 : decide (x4_1.size + ((rd_T51 t117 x5_1).f0).size ≤ 9223372036854775807) = true := decide_eq_true c11; try have c11b2 : (9223372036854775807 < x4_1.size + ((rd_T51 t117 x5_1).f0).size) = False := eq_false (Nat.not_lt.2 c11)
       have H' := am_ H; clear H; obtain ⟨Ao12, co12, eo12⟩ := Kd.R_slice HO_3.out; subst eo12; have p121 : 0 ≤ (x5_1 : Int) := of_decide_eq_true u7_; have q121 : x5_1 < (t117.length : Int) := of_decide_eq_true u7_; obtain ⟨ad121, e121, hx121_0, hx121_1, hx121_2⟩ := at_T51 (Kd.R_reads' HO_3.out).2.2 x5_1 p121 q121; cases e121; replace p121 := eq_true p121; replace q121 := eq_true q121; go_wp2; go_roundg k1
       case measure => have := HK1.out; omega
       case rel => exact ⟨(x4_1 ++ ((rd_T51 t117 x5_1).f0)), (wrap64 (x5_1 + 1)), u20_, u20_, H', ⟨u44_⟩, ⟨u27_⟩, ⟨u1_⟩⟩
      ·exact u83_
     ·rw [if_neg c10] at H; exact absurd H u51_
   ·rw [if_neg c4] at H; have c4b0 : decide (x5_1 < (t117.length : Int)) = false := decide_eq_false c4; clear c4; by_cases c13 : x4_1.toList = a0.toList
    ·rw [if_pos c13] at H; have c13b0 : (x4_1.toList == a0.toList) = true := beq_iff_eq.mpr c13; have c13b1 : (x4_1.toList != a0.toList) = false := bne_eq_false_iff_eq.mpr c13; clear c13; obtain rfl := Option.some.inj H; obtain ⟨Ao14, co14, eo14⟩ := Kd.R_slice HO_3.out; subst eo14; go_wp2; go_ret
     exact ⟨u2_, u1_⟩
    ·rw [if_neg c13] at H; have c13b0 : (x4_1.toList == a0.toList) = false := beq_eq_false_iff_ne.mpr c13; have c13b1 : (x4_1.toList != a0.toList) = true := bne_iff_ne.mpr c13; obtain rfl := Option.some.inj H; obtain ⟨Ao15, co15, eo15⟩ := Kd.R_slice HO_3.out; subst eo15; go_wp2; go_ret
     exact ⟨u2_, u1_⟩

/-! ### spec_Fold: function 25 -/
def spec_Fold.l0 : Nat → ByteArray → List Int → Int → Option (ByteArray)
 | 0, _, _, _ => none
 | k + 1, x0, x3, x4 => if x4 < (x0.size : Int) then (if 0 ≤ x4 then ((spec_l1Small.f (bt x0 x4)).bind fun t125 => (if x3.length < 140737488355328 then (spec_Fold.l0 k x0 (x3 ++ [t125]) (wrap64 (x4 + 1))) else (none))) else (none)) else (some (strOfNums x3))
def spec_Fold.f (k : Nat) (a0 : ByteArray) : Option (ByteArray) := spec_Fold.l0 k a0 (([] : List Int)) 0
theorem spec_Fold.mono_l : ∀ k, (∀ y0 y1 y2, LeO (spec_Fold.l0 k y0 y1 y2) (spec_Fold.l0 (k + 1) y0 y1 y2))
 | 0 => fun _ _ _ r h => by simp [spec_Fold.l0] at h
 | k + 1 => by
  have ih0 := spec_Fold.mono_l k
  ·intro y0 y1 y2; unfold spec_Fold.l0
   repeat' first
   | (with_reducible exact ih0 _ _ _)
   | (with_reducible exact LeO.refl _)
   | (with_reducible exact LeO.none _)
   | (with_reducible refine LeO.ite ?_ ?_)
   | (with_reducible refine LeO.bind ?_ (fun _ => ?_))
   | exact ih0 _ _ _
   | exact LeO.none _
   | refine LeO.ite ?_ ?_
   | refine LeO.bind ?_ (fun _ => ?_)
theorem spec_Fold.mono : ∀ a0 k, LeO (spec_Fold.f k a0) (spec_Fold.f (k + 1) a0) := by
 intro a0 k; have ih0 := spec_Fold.mono_l k; unfold spec_Fold.f
 repeat' first
   | (with_reducible exact ih0 _ _ _)
   | (with_reducible exact LeO.refl _)
   | (with_reducible exact LeO.none _)
   | (with_reducible refine LeO.ite ?_ ?_)
   | (with_reducible refine LeO.bind ?_ (fun _ => ?_))
   | exact ih0 _ _ _
   | exact LeO.none _
   | refine LeO.ite ?_ ?_
   | refine LeO.bind ?_ (fun _ => ?_)
set_option maxHeartbeats 8000000 in
set_option maxRecDepth 100000 in
theorem spec_Fold.calls (k : Nat) (a0 : ByteArray) (r : ByteArray) (w : World) (h : spec_Fold.f k a0 = some r) :
  Calls Tryd.prog 25 #[.string a0] w fun e w' => e = .returned (.string r) ∧ Below w.heap.size w w' := by
 have HB := am_ (Below.refl w.heap.size w); have H : (spec_Fold.l0 k a0 (([] : List Int)) 0) = some r := h; clear h; obtain ⟨y122, hy122⟩ : ∃ y_ : List Int, y_ = (([] : List Int)) := ⟨_, rfl⟩; replace H : (spec_Fold.l0 k a0 y122 0) = some r := by first | (rw [hy122]; with_reducible exact H) | (have H2_ := (Option.bind_some _ _).symm.trans H; rw [hy122]; with_reducible exact H2_) | (have H2_ := (Option.bind_some _ _).symm.trans H; with_reducible exact H2_) | with_reducible exact H | (rw [hy122]; exact H) | exact H
 have Ny122 := am_ hy122; clear hy122; have H' := am_ H; clear H; go_enter Tryd.func25, Tryd.ntmps25
 go_wp2_with (first | ((with_reducible refine gate_dst (N := 5) rfl ?_); refine Kd.R_lit (Kd.int .u8) _ 5 ?hg (N := 5) ?hd (xs := ([] : List Int)) (inner := []) (ok := fun _ => True) (okp := fun _ => True) ?hr ?hp (fun _ hk => hk) trivial (Below.refl _ _) (Nat.le_refl _) u51_ ?_; (case hd => rfl); (case hg => rfl); (case hr => exact u26_); (case hp => exact (Reps.none _ _)); intro v123 w2 ho3 hb hg_ hnew_; clear hg_ hnew_; (first | rw [← Ny122.out] at ho3 | (simp only [Int.reduceToNat] at ho3; rw [← Ny122.out] at ho3)); have HO124 := am_ (Kd.R_lower ho3 (below_size u1_)); replace HB := am_ (below_step u1_ hb); clear hb ho3))
 go_loopg [3, 4] k (fun kq v3 v4 w' => ∃ (x3_1 : List Int) (x4_1 : Int), v4 = .int .i64 x4_1 ∧ Aside0 (spec_Fold.l0 kq a0 x3_1 x4_1 = some r) ∧ Aside0 (kq ≤ k) ∧ Aside0 (Kd.R (Kd.int .u8) 5 w' w.heap.size (fun _ => True) v3 x3_1) ∧ Aside0 (Below w.heap.size w w'))
 case atStart => exact ⟨(y122), (0), u20_, H', ⟨Nat.le_refl _⟩, ⟨by (with_reducible repeat (first | apply Kd.R_alloc | apply Kd.R_drewN | apply Kd.R_drew)); exact HO124.out⟩, ⟨u1_⟩⟩
 case round =>
  clear H'; try clear c2
  try clear p2
  obtain ⟨x3_1, x4_1, rfl, HA, HK1, HO_3, HB⟩ := hrel; cases gk with
  | zero => exact absurd HA.out (by simp [spec_Fold.l0])
  | succ k1 =>
   have H := HA.out; clear HA; simp only [spec_Fold.l0] at H; by_cases c4 : x4_1 < (a0.size : Int)
   ·rw [if_pos c4] at H; have c4b0 : decide (x4_1 < (a0.size : Int)) = true := decide_eq_true c4; clear c4; by_cases c5 : 0 ≤ x4_1
    ·rw [if_pos c5] at H; have c5b0 : decide (0 ≤ x4_1) = true := decide_eq_true c5; clear c5; replace H := Option.bind_eq_some_iff.mp H; obtain ⟨t125, A70, H⟩ := H; replace H : (if x3_1.length < 140737488355328 then (spec_Fold.l0 k1 a0 (x3_1 ++ [t125]) (wrap64 (x4_1 + 1))) else (none)) = some r := H; have A7 := am_ A70; clear A70; by_cases c8 : x3_1.length < 140737488355328
     ·rw [if_pos c8] at H; have LMc8 := am_ c8; clear c8; obtain ⟨y126, hy126⟩ : ∃ y_ : List Int, y_ = (x3_1 ++ [t125]) := ⟨_, rfl⟩; replace H : (spec_Fold.l0 k1 a0 y126 (wrap64 (x4_1 + 1))) = some r := by first | (rw [hy126]; with_reducible exact H) | (have H2_ := (Option.bind_some _ _).symm.trans H; rw [hy126]; with_reducible exact H2_) | (have H2_ := (Option.bind_some _ _).symm.trans H; with_reducible exact H2_) | with_reducible exact H | (rw [hy126]; exact H) | exact H
      have Ny126 := am_ hy126; clear hy126; have H' := am_ H; clear H; have p6 : 0 ≤ (x4_1 : Int) := of_decide_eq_true u7_; have q6 : x4_1 < (a0.size : Int) := of_decide_eq_true u7_; have hx6 := bt_at a0 x4_1; replace p6 := eq_true p6; replace q6 := eq_true q6; go_wp2_with (first | ((with_reducible refine gate_callee (f := 34) rfl ?_); refine goesL_ (some 16) rfl rfl Tryd.func34 u8_ rfl #[.int .u8 (bt a0 x4_1)] rfl u4_ ?_; (with_reducible refine (spec_l1Small.calls (bt a0 x4_1) t125 _ A7.out).mono ?_); rintro e w' ⟨rfl, ⟨nd, rfl⟩⟩; refine ⟨_, rfl, ?_⟩) | ((with_reducible refine gate_builtin (b := .append) (xs := #[.tmp 12, .tmp 17]) rfl ?_); at_builtin; refine Kd.R_append (Kd.int .u8) (w0 := w) w.heap.size rfl (.tmp 12) (.tmp 17) 47 5 (.int .u8 0) 1 rfl Tryd.underlying47 info5 rfl u73_ u52_ u3 x3_1 t125 [.int .u8 t125] (fun _ => True) (fun _ => False) rfl rfl ?aP (fun _ hk => hk.elim) ?aF ?aO ?aB ?aS ?aL ?_; (case aP => exact rfl); (case aB => exact u1_); (case aF => exact (fun _ _ => trivial)); (case aO => exact u27_); (case aS => exact (below_size u1_)); (case aL => have := LMc8.out; omega); intro v127 w9 ho hb hg hat; rw [← Ny126.out] at ho; replace HB := am_ (hb); have HO128 := am_ (ho); clear HO_3 ho hb hg hat))
      go_roundg k1
      case measure => have := HK1.out; omega
      case rel => exact ⟨(y126), (wrap64 (x4_1 + 1)), u20_, H', ⟨u44_⟩, ⟨by (with_reducible repeat (first | apply Kd.R_alloc | apply Kd.R_drewN | apply Kd.R_drew)); exact HO128.out⟩, ⟨u1_⟩⟩
     ·rw [if_neg c8] at H; exact absurd H u51_
    ·exact u81_
   ·rw [if_neg c4] at H; have c4b0 : decide (x4_1 < (a0.size : Int)) = false := decide_eq_false c4; clear c4; obtain rfl := Option.some.inj H; have hcv10 := own_string (P := Tryd.prog) Tryd.underlying47 Tryd.underlying5 Tryd.underlying9 (Kd.own_of_R HO_3.out); go_wp2; go_ret
    exact ⟨u2_, u1_⟩

/-! ### spec_l1Stop: function 33 -/
def spec_l1Stop.l0 : Nat → ByteArray → List ByteArray → Int → Option (Bool)
 | 0, _, _, _ => none
 | k + 1, x0, x3, x4 => if x4 < (x3.length : Int) then (if 0 ≤ x4 then (if (rdOf ByteArray.empty x3 x4).toList = x0.toList then (some true) else (spec_l1Stop.l0 k x0 x3 (wrap64 (x4 + 1)))) else (none)) else (some false)
def spec_l1Stop.f (k : Nat) (a0 : ByteArray) : Option (Bool) := spec_l1Stop.l0 k a0 (([(⟨#[97]⟩ : ByteArray), (⟨#[97, 110]⟩ : ByteArray), (⟨#[97, 110, 100]⟩ : ByteArray), (⟨#[111, 102]⟩ : ByteArray), (⟨#[116, 104, 101]⟩ : ByteArray), (⟨#[116, 111]⟩ : ByteArray)] : List ByteArray)) 0
theorem spec_l1Stop.mono_l : ∀ k, (∀ y0 y1 y2, LeO (spec_l1Stop.l0 k y0 y1 y2) (spec_l1Stop.l0 (k + 1) y0 y1 y2))
 | 0 => fun _ _ _ r h => by simp [spec_l1Stop.l0] at h
 | k + 1 => by
  have ih0 := spec_l1Stop.mono_l k
  ·intro y0 y1 y2; unfold spec_l1Stop.l0
   repeat' first
   | (with_reducible exact ih0 _ _ _)
   | (with_reducible exact LeO.refl _)
   | (with_reducible exact LeO.none _)
   | (with_reducible refine LeO.ite ?_ ?_)
   | (with_reducible refine LeO.bind ?_ (fun _ => ?_))
   | exact ih0 _ _ _
   | exact LeO.none _
   | refine LeO.ite ?_ ?_
   | refine LeO.bind ?_ (fun _ => ?_)
theorem spec_l1Stop.mono : ∀ a0 k, LeO (spec_l1Stop.f k a0) (spec_l1Stop.f (k + 1) a0) := by
 intro a0 k; have ih0 := spec_l1Stop.mono_l k; unfold spec_l1Stop.f
 repeat' first
   | (with_reducible exact ih0 _ _ _)
   | (with_reducible exact LeO.refl _)
   | (with_reducible exact LeO.none _)
   | (with_reducible refine LeO.ite ?_ ?_)
   | (with_reducible refine LeO.bind ?_ (fun _ => ?_))
   | exact ih0 _ _ _
   | exact LeO.none _
   | refine LeO.ite ?_ ?_
   | refine LeO.bind ?_ (fun _ => ?_)
set_option maxHeartbeats 8000000 in
set_option maxRecDepth 100000 in
theorem spec_l1Stop.calls (k : Nat) (a0 : ByteArray) (r : Bool) (w : World) (h : spec_l1Stop.f k a0 = some r) :
  Calls Tryd.prog 33 #[.string a0] w fun e w' => e = .returned (.bool r) ∧ Below w.heap.size w w' := by
 have HB := am_ (Below.refl w.heap.size w); have H : (spec_l1Stop.l0 k a0 (([(⟨#[97]⟩ : ByteArray), (⟨#[97, 110]⟩ : ByteArray), (⟨#[97, 110, 100]⟩ : ByteArray), (⟨#[111, 102]⟩ : ByteArray), (⟨#[116, 104, 101]⟩ : ByteArray), (⟨#[116, 111]⟩ : ByteArray)] : List ByteArray)) 0) = some r := h; clear h; obtain ⟨y129, hy129⟩ : ∃ y_ : List ByteArray, y_ = (([(⟨#[97]⟩ : ByteArray), (⟨#[97, 110]⟩ : ByteArray), (⟨#[97, 110, 100]⟩ : ByteArray), (⟨#[111, 102]⟩ : ByteArray), (⟨#[116, 104, 101]⟩ : ByteArray), (⟨#[116, 111]⟩ : ByteArray)] : List ByteArray)) := ⟨_, rfl⟩; replace H : (spec_l1Stop.l0 k a0 y129 0) = some r := by first | (rw [hy129]; with_reducible exact H) | (have H2_ := (Option.bind_some _ _).symm.trans H; rw [hy129]; with_reducible exact H2_) | (have H2_ := (Option.bind_some _ _).symm.trans H; with_reducible exact H2_) | with_reducible exact H | (rw [hy129]; exact H) | exact H
 have Ny129 := am_ hy129; clear hy129; have H' := am_ H; clear H; go_enter Tryd.func33, Tryd.ntmps33
 go_wp2_with (first | ((with_reducible refine gate_dst (N := 5) rfl ?_); refine Kd.R_lit Kd.string _ 9 ?hg (N := 5) ?hd (xs := ([(⟨#[97]⟩ : ByteArray), (⟨#[97, 110]⟩ : ByteArray), (⟨#[97, 110, 100]⟩ : ByteArray), (⟨#[111, 102]⟩ : ByteArray), (⟨#[116, 104, 101]⟩ : ByteArray), (⟨#[116, 111]⟩ : ByteArray)] : List ByteArray)) (inner := [.string (⟨#[97]⟩ : ByteArray), .string (⟨#[97, 110]⟩ : ByteArray), .string (⟨#[97, 110, 100]⟩ : ByteArray), .string (⟨#[111, 102]⟩ : ByteArray), .string (⟨#[116, 104, 101]⟩ : ByteArray), .string (⟨#[116, 111]⟩ : ByteArray)]) (ok := fun _ => True) (okp := fun _ => True) ?hr ?hp (fun _ hk => hk) trivial (Below.refl _ _) (Nat.le_refl _) u51_ ?_; (case hd => rfl); (case hg => rfl); (case hr => exact u26_); (case hp => exact (Reps.one (show Kd.M Kd.string _ _ _ (⟨#[97]⟩ : ByteArray) [.string (⟨#[97]⟩ : ByteArray)] from rfl) (Reps.one (show Kd.M Kd.string _ _ _ (⟨#[97, 110]⟩ : ByteArray) [.string (⟨#[97, 110]⟩ : ByteArray)] from rfl) (Reps.one (show Kd.M Kd.string _ _ _ (⟨#[97, 110, 100]⟩ : ByteArray) [.string (⟨#[97, 110, 100]⟩ : ByteArray)] from rfl) (Reps.one (show Kd.M Kd.string _ _ _ (⟨#[111, 102]⟩ : ByteArray) [.string (⟨#[111, 102]⟩ : ByteArray)] from rfl) (Reps.one (show Kd.M Kd.string _ _ _ (⟨#[116, 104, 101]⟩ : ByteArray) [.string (⟨#[116, 104, 101]⟩ : ByteArray)] from rfl) (Reps.one (show Kd.M Kd.string _ _ _ (⟨#[116, 111]⟩ : ByteArray) [.string (⟨#[116, 111]⟩ : ByteArray)] from rfl) (Reps.none _ _)))))))); intro v130 w2 ho3 hb hg_ hnew_; clear hg_ hnew_; (first | rw [← Ny129.out] at ho3 | (simp only [Int.reduceToNat] at ho3; rw [← Ny129.out] at ho3)); have HO131 := am_ (Kd.R_lower ho3 (below_size u1_)); replace HB := am_ (below_step u1_ hb); clear hb ho3))
 go_loopg [4] k (fun kq v4 w' => ∃ (x4_1 : Int), v4 = .int .i64 x4_1 ∧ Aside0 (spec_l1Stop.l0 kq a0 y129 x4_1 = some r) ∧ Aside0 (kq ≤ k) ∧ Aside0 (Kd.R Kd.string 9 w' w.heap.size (fun _ => True) v130 y129) ∧ Aside0 (Below w.heap.size w w'))
 case atStart => exact ⟨(0), u20_, H', ⟨Nat.le_refl _⟩, ⟨by (with_reducible repeat (first | apply Kd.R_alloc | apply Kd.R_drewN | apply Kd.R_drew)); exact HO131.out⟩, ⟨u1_⟩⟩
 case round =>
  clear H'; try clear p2
  try clear c3
  obtain ⟨x4_1, rfl, HA, HK1, HO_3, HB⟩ := hrel; cases gk with
  | zero => exact absurd HA.out (by simp [spec_l1Stop.l0])
  | succ k1 =>
   have H := HA.out; clear HA; simp only [spec_l1Stop.l0] at H; by_cases c4 : x4_1 < (y129.length : Int)
   ·rw [if_pos c4] at H; have c4b0 : decide (x4_1 < (y129.length : Int)) = true := decide_eq_true c4; clear c4; by_cases c5 : 0 ≤ x4_1
    ·rw [if_pos c5] at H; have c5b0 : decide (0 ≤ x4_1) = true := decide_eq_true c5; clear c5; by_cases c6 : (rdOf ByteArray.empty y129 x4_1).toList = a0.toList
     ·rw [if_pos c6] at H; have c6b0 : ((rdOf ByteArray.empty y129 x4_1).toList == a0.toList) = true := beq_iff_eq.mpr c6; have c6b1 : ((rdOf ByteArray.empty y129 x4_1).toList != a0.toList) = false := bne_eq_false_iff_eq.mpr c6; clear c6; obtain rfl := Option.some.inj H; obtain ⟨Ao7, co7, eo7⟩ := Kd.R_slice HO_3.out; subst eo7; have p132 : 0 ≤ (x4_1 : Int) := of_decide_eq_true u7_; have q132 : x4_1 < (y129.length : Int) := of_decide_eq_true u7_; obtain ⟨ad132, e132, hx132_0⟩ := Kd.at_string (Kd.R_reads' HO_3.out).2.2 x4_1 p132 q132; cases e132; replace p132 := eq_true p132; replace q132 := eq_true q132; go_wp2; go_ret
      exact ⟨u2_, u1_⟩
     ·rw [if_neg c6] at H; have c6b0 : ((rdOf ByteArray.empty y129 x4_1).toList == a0.toList) = false := beq_eq_false_iff_ne.mpr c6; have c6b1 : ((rdOf ByteArray.empty y129 x4_1).toList != a0.toList) = true := bne_iff_ne.mpr c6; have H' := am_ H; clear H; obtain ⟨Ao8, co8, eo8⟩ := Kd.R_slice HO_3.out; subst eo8; have p132 : 0 ≤ (x4_1 : Int) := of_decide_eq_true u7_; have q132 : x4_1 < (y129.length : Int) := of_decide_eq_true u7_; obtain ⟨ad132, e132, hx132_0⟩ := Kd.at_string (Kd.R_reads' HO_3.out).2.2 x4_1 p132 q132; cases e132; replace p132 := eq_true p132; replace q132 := eq_true q132; go_wp2; go_roundg k1
      case measure => have := HK1.out; omega
      case rel => exact ⟨(wrap64 (x4_1 + 1)), u20_, H', ⟨u44_⟩, ⟨u27_⟩, ⟨u1_⟩⟩
    ·exact u81_
   ·rw [if_neg c4] at H; have c4b0 : decide (x4_1 < (y129.length : Int)) = false := decide_eq_false c4; clear c4; obtain rfl := Option.some.inj H; obtain ⟨Ao9, co9, eo9⟩ := Kd.R_slice HO_3.out; subst eo9; go_wp2; go_ret
    exact ⟨u2_, u1_⟩

end Go.Proofs.YthlabmfecmdlcaaDoor.PFnExactQueryOk
