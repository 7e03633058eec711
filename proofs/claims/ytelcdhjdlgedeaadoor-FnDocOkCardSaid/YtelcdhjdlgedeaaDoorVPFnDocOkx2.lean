/- Contracts of Go functions that the law FnDocOk reaches: each is told as a plain Lean function, with the walk that shows it; no condition beyond what each states. Written by a program of this session round the kit's printer. -/
import Derived.Test.YtelcdhjdlgedeaaDoorVPFnDocOkx0
import Derived.Test.YtelcdhjdlgedeaaDoorVPFnDocOkx1
namespace Go.Proofs.YtelcdhjdlgedeaaDoor.PFnDocOk
open Go.RowKit Go.Proofs.YtelcdhjdlgedeaaDoorW.PrintWords Go.Proofs.YtelcdhjdlgedeaaDoorW.PrintLast Go.Proofs.YtelcdhjdlgedeaaDoorW.PrintMore
attribute [local go_sem] run_str_geq run_str_leq max2_int min2_int max_two min_two max_three min_three max_four min_four   -- for this text's walks alone
set_option linter.unusedVariables false
set_option linter.unusedSimpArgs false

/-! ### spec_l11Text: function 111 -/
def spec_l11Text.l0 : Nat → ByteArray → Int → List Int → Int → Option (ByteArray × Int)
 | 0, _, _, _, _ => none
 | k + 1, x3, x4, x1000, x1001 => if x4 > 0 then ((spec_l11Word.f k x1000 x1001).bind fun bt165 => (if x3.size + bt165.1.size ≤ 9223372036854775807 then ((spec_l1Rd_of.f k x1000 bt165.2 (([(⟨#[32]⟩ : ByteArray), (⟨#[44, 32]⟩ : ByteArray), (⟨#[45]⟩ : ByteArray), (⟨#[32]⟩ : ByteArray), (⟨#[46]⟩ : ByteArray)] : List ByteArray))).bind fun bt170 => (if (x3 ++ bt165.1).size + bt170.1.size ≤ 9223372036854775807 then (spec_l11Text.l0 k ((x3 ++ bt165.1) ++ bt170.1) (wrap64 (x4 - 1)) x1000 bt170.2) else (none))) else (none))) else (some (x3, x1001))
def spec_l11Text.f (k : Nat) (s0_0 : List Int) (s0_1 : Int) : Option (ByteArray × Int) := (spec_l1Rd_pick.f k s0_0 s0_1 6).bind fun bt163 => (spec_l11Text.l0 k (⟨#[]⟩ : ByteArray) bt163.1 s0_0 bt163.2)
theorem spec_l11Text.mono_l : ∀ k, (∀ y0 y1 y2 y3, LeO (spec_l11Text.l0 k y0 y1 y2 y3) (spec_l11Text.l0 (k + 1) y0 y1 y2 y3))
 | 0 => fun _ _ _ _ r h => by simp [spec_l11Text.l0] at h
 | k + 1 => by
  have ih0 := spec_l11Text.mono_l k
  ·intro y0 y1 y2 y3; unfold spec_l11Text.l0
   repeat' first
   | (with_reducible exact ih0 _ _ _ _)
   | (with_reducible exact spec_l11Word.mono _ _ _)
   | (with_reducible exact spec_l1Rd_of.mono _ _ _ _)
   | (with_reducible exact spec_l1Rd_pick.mono _ _ _ _)
   | (with_reducible exact LeO.refl _)
   | (with_reducible exact LeO.none _)
   | (with_reducible refine LeO.ite ?_ ?_)
   | (with_reducible refine LeO.bind ?_ (fun _ => ?_))
   | exact ih0 _ _ _ _
   | exact spec_l11Word.mono _ _ _
   | exact spec_l1Rd_of.mono _ _ _ _
   | exact spec_l1Rd_pick.mono _ _ _ _
   | exact LeO.none _
   | refine LeO.ite ?_ ?_
   | refine LeO.bind ?_ (fun _ => ?_)
theorem spec_l11Text.mono : ∀ a0 a1 k, LeO (spec_l11Text.f k a0 a1) (spec_l11Text.f (k + 1) a0 a1) := by
 intro a0 a1 k; have ih0 := spec_l11Text.mono_l k; unfold spec_l11Text.f
 repeat' first
   | (with_reducible exact ih0 _ _ _ _)
   | (with_reducible exact spec_l11Word.mono _ _ _)
   | (with_reducible exact spec_l1Rd_of.mono _ _ _ _)
   | (with_reducible exact spec_l1Rd_pick.mono _ _ _ _)
   | (with_reducible exact LeO.refl _)
   | (with_reducible exact LeO.none _)
   | (with_reducible refine LeO.ite ?_ ?_)
   | (with_reducible refine LeO.bind ?_ (fun _ => ?_))
   | exact ih0 _ _ _ _
   | exact spec_l11Word.mono _ _ _
   | exact spec_l1Rd_of.mono _ _ _ _
   | exact spec_l1Rd_pick.mono _ _ _ _
   | exact LeO.none _
   | refine LeO.ite ?_ ?_
   | refine LeO.bind ?_ (fun _ => ?_)
set_option maxHeartbeats 8000000 in
set_option maxRecDepth 100000 in
theorem spec_l11Text.calls (k : Nat) (g : Nat) (s0_0 : List Int) (s0_1 : Int) (r1 : ByteArray) (r2 : Int) (w0 w : World) (hI : IsS99 w0 w g s0_0 s0_1) (hB : Below w0.heap.size w0 w) (h : spec_l11Text.f k s0_0 s0_1 = some (r1, r2)) :
  Calls Tryd.prog 111 #[.pointer (some ⟨g, 0, none⟩)] w fun e w' => e = .returned (.string r1) ∧ IsS99 w0 w' g s0_0 r2 ∧ Below w0.heap.size w0 w' ∧ KeepBut w w' g none := by
 have HI0 := am_ hI; have HK := am_ (KeepBut.refl w g none); have HL := am_ hB.size; clear hI; have HW0 := am_ hB.size; have HB := am_ hB; clear hB; have H : ((spec_l1Rd_pick.f k s0_0 s0_1 6).bind fun bt163 => (spec_l11Text.l0 k (⟨#[]⟩ : ByteArray) bt163.1 s0_0 bt163.2)) = some (r1, r2) := h; clear h; replace H := Option.bind_eq_some_iff.mp H; obtain ⟨⟨t163, t164⟩, A20, H⟩ := H; replace H : (spec_l11Text.l0 k (⟨#[]⟩ : ByteArray) t163 s0_0 t164) = some (r1, r2) := H; have A2 := am_ A20; clear A20; have H' := am_ H; clear H; go_enter Tryd.func111, Tryd.ntmps111
 go_wp2_with (first | ((with_reducible refine gate_callee (f := 78) rfl ?_); refine goesL_ (some 6) rfl rfl Tryd.func78 u23_ rfl #[.pointer (some ⟨g, 0, none⟩), .int .i64 6] rfl u1_ ?_; (with_reducible refine (spec_l1Rd_pick.calls k g s0_0 s0_1 6 t163 t164 w0 _ ?side1 ?side2 A2.out).mono ?_); (case side1 => exact u34_); (case side2 => exact u31_); rintro e w3 ⟨rfl, hi, hb, hk⟩; refine ⟨_, rfl, ?_⟩; replace HK := am_ (KeepBut.trans u3_ hk (.inl rfl)); replace HB := am_ (hb); replace HI0 := am_ (hi); (try clear hb); (try clear hb2); (try clear hk); (try clear hi)))
 go_loopg [3, 4] k (fun kq v3 v4 w' => ∃ (x3_1 : ByteArray) (x4_1 : Int) (x1001_1 : Int), v3 = .string x3_1 ∧ v4 = .int .i64 x4_1 ∧ Aside0 (spec_l11Text.l0 kq x3_1 x4_1 s0_0 x1001_1 = some (r1, r2)) ∧ Aside0 (kq ≤ k) ∧ Aside0 (IsS99 w0 w' g s0_0 x1001_1) ∧ Aside0 (KeepBut w w' g none) ∧ Aside0 (Below w0.heap.size w0 w'))
 case atStart => exact ⟨((⟨#[]⟩ : ByteArray)), (t163), (t164), u35_, u35_, H', ⟨Nat.le_refl _⟩, ⟨u4_⟩, ⟨u3_⟩, ⟨u10_⟩⟩
 case round =>
  clear H'; try clear c1
  try clear p2
  obtain ⟨x3_1, x4_1, x1001_1, rfl, rfl, HA, HK1, HI0, HK, HB⟩ := hrel; cases gk with
  | zero => exact absurd HA.out (by simp [spec_l11Text.l0])
  | succ k1 =>
   have H := HA.out; clear HA; simp only [spec_l11Text.l0] at H; by_cases c4 : x4_1 > 0
   ·rw [if_pos c4] at H; have c4b0 : decide (0 < x4_1) = true := decide_eq_true c4; clear c4; replace H := Option.bind_eq_some_iff.mp H; obtain ⟨⟨t165, t166⟩, A50, H⟩ := H; replace H : (if x3_1.size + t165.size ≤ 9223372036854775807 then ((spec_l1Rd_of.f k1 s0_0 t166 (([(⟨#[32]⟩ : ByteArray), (⟨#[44, 32]⟩ : ByteArray), (⟨#[45]⟩ : ByteArray), (⟨#[32]⟩ : ByteArray), (⟨#[46]⟩ : ByteArray)] : List ByteArray))).bind fun bt170 => (if (x3_1 ++ t165).size + bt170.1.size ≤ 9223372036854775807 then (spec_l11Text.l0 k1 ((x3_1 ++ t165) ++ bt170.1) (wrap64 (x4_1 - 1)) s0_0 bt170.2) else (none))) else (none)) = some (r1, r2) := H; have A5 := am_ A50; clear A50; by_cases c6 : x3_1.size + t165.size ≤ 9223372036854775807
    ·rw [if_pos c6] at H; have c6b0 := eq_true c6; have c6b1 : decide (x3_1.size + t165.size ≤ 9223372036854775807) = true := decide_eq_true c6; try have c6b2 : (9223372036854775807 < x3_1.size + t165.size) = False := eq_false (Nat.not_lt.2 c6)
     obtain ⟨y167, hy167⟩ : ∃ y_ : List ByteArray, y_ = (([(⟨#[32]⟩ : ByteArray), (⟨#[44, 32]⟩ : ByteArray), (⟨#[45]⟩ : ByteArray), (⟨#[32]⟩ : ByteArray), (⟨#[46]⟩ : ByteArray)] : List ByteArray)) := ⟨_, rfl⟩; replace H : ((spec_l1Rd_of.f k1 s0_0 t166 y167).bind fun bt170 => (if (x3_1 ++ t165).size + bt170.1.size ≤ 9223372036854775807 then (spec_l11Text.l0 k1 ((x3_1 ++ t165) ++ bt170.1) (wrap64 (x4_1 - 1)) s0_0 bt170.2) else (none))) = some (r1, r2) := by first | (rw [hy167]; with_reducible exact H) | (have H2_ := (Option.bind_some _ _).symm.trans H; rw [hy167]; with_reducible exact H2_) | (have H2_ := (Option.bind_some _ _).symm.trans H; with_reducible exact H2_) | with_reducible exact H | (rw [hy167]; exact H) | exact H
     have Ny167 := am_ hy167; clear hy167; replace H := Option.bind_eq_some_iff.mp H; obtain ⟨⟨t170, t171⟩, A70, H⟩ := H; replace H : (if (x3_1 ++ t165).size + t170.size ≤ 9223372036854775807 then (spec_l11Text.l0 k1 ((x3_1 ++ t165) ++ t170) (wrap64 (x4_1 - 1)) s0_0 t171) else (none)) = some (r1, r2) := H; have A7 := am_ A70; clear A70; by_cases c8 : (x3_1 ++ t165).size + t170.size ≤ 9223372036854775807
     ·rw [if_pos c8] at H; have c8b0 := eq_true c8; have c8b1 : decide ((x3_1 ++ t165).size + t170.size ≤ 9223372036854775807) = true := decide_eq_true c8; try have c8b2 : (9223372036854775807 < (x3_1 ++ t165).size + t170.size) = False := eq_false (Nat.not_lt.2 c8)
      try have c8b3 := c8; try simp only [ByteArray.size_append, size_lit, List.size_toArray, List.length_cons, List.length_nil, Nat.zero_add, Nat.reduceAdd] at c8b3; try have c8b4 := eq_true c8b3; try have c8b5 := decide_eq_true c8b3; try have c8b6 := eq_false (Nat.not_lt.2 c8b3)
      try have c8b7 := c8b3; try simp at c8b7; try have c8b8 := eq_true c8b7; try have c8b9 := decide_eq_true c8b7; try have c8bA := eq_false (Nat.not_lt.2 c8b7)
      have H' := am_ H; clear H; go_wp2_with (first | ((with_reducible refine gate_callee (f := 128) rfl ?_); refine goesL_ (some 13) rfl rfl Tryd.func128 u23_ rfl #[.pointer (some ⟨g, 0, none⟩)] rfl u1_ ?_; (with_reducible refine (spec_l11Word.calls k1 g s0_0 x1001_1 t165 t166 w0 _ ?side1 ?side2 A5.out).mono ?_); (case side1 => exact u34_); (case side2 => exact u31_); rintro e w9 ⟨rfl, hi, hb, hk⟩; refine ⟨_, rfl, ?_⟩; replace HK := am_ (KeepBut.trans u3_ hk (.inl rfl)); replace HB := am_ (hb); replace HI0 := am_ (hi); (try clear hb); (try clear hb2); (try clear hk); (try clear hi)) | ((with_reducible refine gate_dst (N := 16) rfl ?_); refine Kd.R_lit Kd.string _ 9 ?hg (N := 16) ?hd (xs := ([(⟨#[32]⟩ : ByteArray), (⟨#[44, 32]⟩ : ByteArray), (⟨#[45]⟩ : ByteArray), (⟨#[32]⟩ : ByteArray), (⟨#[46]⟩ : ByteArray)] : List ByteArray)) (inner := [.string (⟨#[32]⟩ : ByteArray), .string (⟨#[44, 32]⟩ : ByteArray), .string (⟨#[45]⟩ : ByteArray), .string (⟨#[32]⟩ : ByteArray), .string (⟨#[46]⟩ : ByteArray)]) (ok := fun _ => True) (okp := fun _ => True) ?hr ?hp (fun _ hk => hk) trivial (Below.refl _ _) (Nat.le_refl _) u99_ ?_; (case hd => rfl); (case hg => rfl); (case hr => exact u33_); (case hp => exact (Reps.one (show Kd.M Kd.string _ _ _ (⟨#[32]⟩ : ByteArray) [.string (⟨#[32]⟩ : ByteArray)] from rfl) (Reps.one (show Kd.M Kd.string _ _ _ (⟨#[44, 32]⟩ : ByteArray) [.string (⟨#[44, 32]⟩ : ByteArray)] from rfl) (Reps.one (show Kd.M Kd.string _ _ _ (⟨#[45]⟩ : ByteArray) [.string (⟨#[45]⟩ : ByteArray)] from rfl) (Reps.one (show Kd.M Kd.string _ _ _ (⟨#[32]⟩ : ByteArray) [.string (⟨#[32]⟩ : ByteArray)] from rfl) (Reps.one (show Kd.M Kd.string _ _ _ (⟨#[46]⟩ : ByteArray) [.string (⟨#[46]⟩ : ByteArray)] from rfl) (Reps.none _ _))))))); intro v168 w10 ho11 hb hg_ hnew_; clear hg_ hnew_; (first | rw [← Ny167.out] at ho11 | (simp only [Int.reduceToNat] at ho11; rw [← Ny167.out] at ho11)); have HO169 := am_ (Kd.R_lower ho11 (keep_size (w := w) (g := g) (row := none) u3_)); replace HK := am_ (KeepBut.trans u3_ (KeepBut.of_below hb g none) (.inl rfl)); replace HB := am_ (below_step u10_ hb); replace HI0 := am_ (IsS99.below u4_ hb); clear hb ho11; obtain ⟨Ao12, co12, eo12⟩ := Kd.R_slice HO169.out; subst eo12) | ((with_reducible refine gate_callee (f := 84) rfl ?_); refine goesL_ (some 17) rfl rfl Tryd.func84 u23_ rfl #[.pointer (some ⟨g, 0, none⟩), .slice Ao12 y167.length co12] rfl u1_ ?_; (with_reducible refine (spec_l1Rd_of.calls k1 g s0_0 t166 _ _ y167 t170 t171 w0 _ ?side1 ?side2 ?side3 ?side4 ?side5 A7.out).mono ?_); (case side1 => exact u34_); (case side2 => exact u31_); (case side3 => repeat (first | exact (Kd.R_reads' HO169.out).2.2 | (with_reducible refine Kd.C_alloc ?_ _) | (with_reducible refine Kd.C_drewN ?_ _) | (with_reducible refine Kd.C_drew ?_))); (case side4 => exact (Kd.R_reads' HO169.out).2.1); (case side5 => exact far_slice (IsS99.own_ne HI0.out HO169.out u52_)); rintro e w13 ⟨rfl, hi, hb, hk⟩; refine ⟨_, rfl, ?_⟩; replace HO169 := am_ (Kd.R_mono (Kd.R_keep (IsS99.apart (show IsS99 w0 _ g s0_0 t166 from u4_) (by (with_reducible repeat (first | apply Kd.R_alloc | apply Kd.R_drewN | apply Kd.R_drew)); exact HO169.out) u52_) hk (fun _ h => h.2)) (fun _ h => h.1)); replace HK := am_ (KeepBut.trans u3_ hk (.inl rfl)); replace HB := am_ (hb); replace HI0 := am_ (hi); (try clear hb); (try clear hb2); (try clear hk); (try clear hi)))
      go_roundg k1
      case measure => have := HK1.out; omega
      case rel => exact ⟨((x3_1 ++ t165) ++ t170), (wrap64 (x4_1 - 1)), (t171), u35_, u35_, H', ⟨u131_⟩, ⟨u4_⟩, ⟨u3_⟩, ⟨u10_⟩⟩
     ·rw [if_neg c8] at H; exact absurd H u99_
    ·exact u244_
   ·rw [if_neg c4] at H; have c4b0 : decide (0 < x4_1) = false := decide_eq_false c4; clear c4; simp only [Option.some.injEq, Prod.mk.injEq] at H; obtain ⟨rfl, rfl⟩ := H; go_wp2; go_ret
    exact ⟨u6_, u4_, u10_, u3_⟩

end Go.Proofs.YtelcdhjdlgedeaaDoor.PFnDocOk
