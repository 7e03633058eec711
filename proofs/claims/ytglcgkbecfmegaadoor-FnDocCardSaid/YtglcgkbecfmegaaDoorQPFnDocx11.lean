/- Contracts of Go functions that the law FnDoc reaches: each is told as a plain Lean function, with the walk that shows it; no condition beyond what each states. Written by a program of this session round the kit's printer. -/
import Derived.Test.YtglcgkbecfmegaaDoorQPFnDocx0
import Derived.Test.YtglcgkbecfmegaaDoorQPFnDocx4
import Derived.Test.YtglcgkbecfmegaaDoorQPFnDocx5
import Derived.Test.YtglcgkbecfmegaaDoorQPFnDocx9
import Derived.Test.YtglcgkbecfmegaaDoorQPFnDocx10
namespace Go.Proofs.YtglcgkbecfmegaaDoor.PFnDoc
open Go.RowKit Go.Proofs.YtglcgkbecfmegaaDoorW.PrintWords Go.Proofs.YtglcgkbecfmegaaDoorW.PrintLast Go.Proofs.YtglcgkbecfmegaaDoorW.PrintMore
attribute [local go_sem] run_str_geq run_str_leq max2_int min2_int max_two min_two max_three min_three max_four min_four   -- for this text's walks alone
set_option linter.unusedVariables false
set_option linter.unusedSimpArgs false

/-! ### laws_FnDoc: function 7 -/
mutual
def laws_FnDoc.j0 : Nat → List Int → List Int → Bool → Option (Bool)
 | 0, _, _, _ => none
 | k + 1, x0, x1, x21 => if x21 = true then (some true) else ((spec_DrawDocPut.f k x0).bind fun bt332 => ((impl_DocPut.f k bt332.1 bt332.2).bind fun t337 => ((impl_DocGet.f k t337).bind fun bt338 => ((spec_DocPut.f k bt332.1 bt332.2).bind fun t344 => (if t337.toList = t344.toList then (if (bt338.2.2 != (t337.toList != ([] : List UInt8))) = true then (laws_FnDoc.j1 k x1 true) else (if bt338.2.2 = true then ((laws_sdDoc.f k bt338.1 bt338.2.1 bt332.1 bt332.2).bind fun t345 => (laws_FnDoc.j1 k x1 (!t345))) else (laws_FnDoc.j1 k x1 false))) else (laws_FnDoc.j1 k x1 true))))))
def laws_FnDoc.j1 : Nat → List Int → Bool → Option (Bool)
 | 0, _, _ => none
 | k + 1, x1, x49 => if x49 = true then (some false) else ((spec_DrawDocGet.f k x1).bind fun t346 => ((impl_DocGet.f k t346).bind fun bt347 => ((spec_DocGet.f k t346).bind fun bt353 => (if (bt347.2.2 == bt353.2.2) = true then ((laws_sdDoc.f k bt347.1 bt347.2.1 bt353.1 bt353.2.1).bind fun t359 => (if t359 = true then (if bt347.2.2 = true then ((impl_DocPut.f k bt347.1 bt347.2.1).bind fun t360 => (some (t360.toList == t346.toList))) else (some true)) else (some false))) else (some false)))))
end
def laws_FnDoc.f (k : Nat) (l0 : List Int) (l1 : List Int) : Option (Bool) := if (l0.length : Int) > 1048576 then (laws_FnDoc.j0 k l0 l1 true) else (laws_FnDoc.j0 k l0 l1 (decide ((l1.length : Int) > 1048576)))
theorem laws_FnDoc.mono_l : ∀ k, (∀ y0 y1 y2, LeO (laws_FnDoc.j0 k y0 y1 y2) (laws_FnDoc.j0 (k + 1) y0 y1 y2)) ∧ (∀ y0 y1, LeO (laws_FnDoc.j1 k y0 y1) (laws_FnDoc.j1 (k + 1) y0 y1))
 | 0 => ⟨fun _ _ _ r h => by simp [laws_FnDoc.j0] at h, fun _ _ r h => by simp [laws_FnDoc.j1] at h⟩
 | k + 1 => by
  obtain ⟨ih0, ih1⟩ := laws_FnDoc.mono_l k
  refine ⟨?_, ?_⟩
  ·intro y0 y1 y2
   unfold laws_FnDoc.j0
   repeat' first
   | (with_reducible exact ih0 _ _ _)
   | (with_reducible exact ih1 _ _)
   | (with_reducible exact impl_DocGet.mono _ _)
   | (with_reducible exact impl_DocPut.mono _ _ _)
   | (with_reducible exact laws_sdDoc.mono _ _ _ _ _)
   | (with_reducible exact spec_DocGet.mono _ _)
   | (with_reducible exact spec_DocPut.mono _ _ _)
   | (with_reducible exact spec_DrawDocGet.mono _ _)
   | (with_reducible exact spec_DrawDocPut.mono _ _)
   | (with_reducible exact LeO.refl _)
   | (with_reducible exact LeO.none _)
   | (with_reducible refine LeO.ite ?_ ?_)
   | (with_reducible refine LeO.bind ?_ (fun _ => ?_))
   | exact ih0 _ _ _
   | exact ih1 _ _
   | exact impl_DocGet.mono _ _
   | exact impl_DocPut.mono _ _ _
   | exact laws_sdDoc.mono _ _ _ _ _
   | exact spec_DocGet.mono _ _
   | exact spec_DocPut.mono _ _ _
   | exact spec_DrawDocGet.mono _ _
   | exact spec_DrawDocPut.mono _ _
   | exact LeO.none _
   | refine LeO.ite ?_ ?_
   | refine LeO.bind ?_ (fun _ => ?_)
  ·intro y0 y1
   unfold laws_FnDoc.j1
   repeat' first
   | (with_reducible exact ih0 _ _ _)
   | (with_reducible exact ih1 _ _)
   | (with_reducible exact impl_DocGet.mono _ _)
   | (with_reducible exact impl_DocPut.mono _ _ _)
   | (with_reducible exact laws_sdDoc.mono _ _ _ _ _)
   | (with_reducible exact spec_DocGet.mono _ _)
   | (with_reducible exact spec_DocPut.mono _ _ _)
   | (with_reducible exact spec_DrawDocGet.mono _ _)
   | (with_reducible exact spec_DrawDocPut.mono _ _)
   | (with_reducible exact LeO.refl _)
   | (with_reducible exact LeO.none _)
   | (with_reducible refine LeO.ite ?_ ?_)
   | (with_reducible refine LeO.bind ?_ (fun _ => ?_))
   | exact ih0 _ _ _
   | exact ih1 _ _
   | exact impl_DocGet.mono _ _
   | exact impl_DocPut.mono _ _ _
   | exact laws_sdDoc.mono _ _ _ _ _
   | exact spec_DocGet.mono _ _
   | exact spec_DocPut.mono _ _ _
   | exact spec_DrawDocGet.mono _ _
   | exact spec_DrawDocPut.mono _ _
   | exact LeO.none _
   | refine LeO.ite ?_ ?_
   | refine LeO.bind ?_ (fun _ => ?_)
theorem laws_FnDoc.mono : ∀ a0 a1 k, LeO (laws_FnDoc.f k a0 a1) (laws_FnDoc.f (k + 1) a0 a1) := by
 intro a0 a1 k
 obtain ⟨ih0, ih1⟩ := laws_FnDoc.mono_l k
 unfold laws_FnDoc.f
 repeat' first
   | (with_reducible exact ih0 _ _ _)
   | (with_reducible exact ih1 _ _)
   | (with_reducible exact impl_DocGet.mono _ _)
   | (with_reducible exact impl_DocPut.mono _ _ _)
   | (with_reducible exact laws_sdDoc.mono _ _ _ _ _)
   | (with_reducible exact spec_DocGet.mono _ _)
   | (with_reducible exact spec_DocPut.mono _ _ _)
   | (with_reducible exact spec_DrawDocGet.mono _ _)
   | (with_reducible exact spec_DrawDocPut.mono _ _)
   | (with_reducible exact LeO.refl _)
   | (with_reducible exact LeO.none _)
   | (with_reducible refine LeO.ite ?_ ?_)
   | (with_reducible refine LeO.bind ?_ (fun _ => ?_))
   | exact ih0 _ _ _
   | exact ih1 _ _
   | exact impl_DocGet.mono _ _
   | exact impl_DocPut.mono _ _ _
   | exact laws_sdDoc.mono _ _ _ _ _
   | exact spec_DocGet.mono _ _
   | exact spec_DocPut.mono _ _ _
   | exact spec_DrawDocGet.mono _ _
   | exact spec_DrawDocPut.mono _ _
   | exact LeO.none _
   | refine LeO.ite ?_ ?_
   | refine LeO.bind ?_ (fun _ => ?_)
set_option maxHeartbeats 8000000 in
set_option maxRecDepth 100000 in
theorem laws_FnDoc.calls (k : Nat) (A0 : Option Addr) (c0 : Nat) (l0 : List Int) (A1 : Option Addr) (c1 : Nat) (l1 : List Int) (r : Bool) (w : World) (hG : StopsIn w) (hr0 : Kd.C (Kd.int .u8) w A0 l0.length l0) (hc0 : l0.length ≤ c0) (hr1 : Kd.C (Kd.int .u8) w A1 l1.length l1) (hc1 : l1.length ≤ c1) (h : laws_FnDoc.f k l0 l1 = some r) :
  Calls Tryd.prog 7 #[.slice A0 l0.length c0, .slice A1 l1.length c1] w fun e w' => e = .returned (.bool r) ∧ Below w.heap.size w w' := by
 have hu37 := Tryd.underlying37
 have HG_ := Aside0.mk hG
 clear hG
 have HR0 := Aside0.mk hr0
 have HC0 := Aside0.mk hc0
 clear hr0 hc0
 have HR1 := Aside0.mk hr1
 have HC1 := Aside0.mk hc1
 clear hr1 hc1
 have HB := Aside0.mk (Below.refl w.heap.size w)
 have H : (if (l0.length : Int) > 1048576 then (laws_FnDoc.j0 k l0 l1 true) else (laws_FnDoc.j0 k l0 l1 (decide ((l1.length : Int) > 1048576)))) = some r := h
 clear h
 have HC3 := Aside0.mk H
 clear H
 go_enter Tryd.func7, Tryd.ntmps7
 go_upto_region 1 with (fail)
 go_cut [21] (fun v21 wc => ∃ (kq : Nat) (x21_2 : Bool), v21 = .bool x21_2 ∧ Aside0 (laws_FnDoc.j0 kq l0 l1 x21_2 = some r) ∧ Aside0 (kq ≤ k) ∧ Aside0 (Below w.heap.size w wc))
 case first =>
  have H := HC3.out
  clear HC3
  by_cases c4 : (l0.length : Int) > 1048576
  ·rw [if_pos c4] at H
   have c4b0 : decide (1048576 < (l0.length : Int)) = true := decide_eq_true c4
   have c4b1 : decide (1048576 < l0.length) = true := decide_eq_true (by omega)
   clear c4
   (first | rw [c4b0] | (simp only [i64_w, i32_w]; rw [c4b0]) | skip)
   have H' := Aside0.mk H
   clear H
   go_wp2
   go_meet
   case rel => exact ⟨_, (true), u22_, H', ⟨by first | omega | exact Nat.le_refl _⟩, ⟨u3_⟩⟩
  ·rw [if_neg c4] at H
   have c4b0 : decide (1048576 < (l0.length : Int)) = false := decide_eq_false c4
   have c4b1 : decide (1048576 < l0.length) = false := decide_eq_false (by omega)
   clear c4
   (first | rw [c4b0] | (simp only [i64_w, i32_w]; rw [c4b0]) | skip)
   have H' := Aside0.mk H
   clear H
   go_wp2
   go_meet
   case rel => exact ⟨_, (decide ((l1.length : Int) > 1048576)), u22_, H', ⟨by first | omega | exact Nat.le_refl _⟩, ⟨u3_⟩⟩
 case rest =>
  clear HC3
  try clear c1
  try clear p2
  try clear c4
  try clear c4b0
  try clear c4b1
  obtain ⟨kq, x21_2, rfl, HA, HJ2, HB⟩ := hcut
  cases kq with
  | zero => exact absurd HA.out (by simp [laws_FnDoc.j0])
  | succ kj2 =>
   have H := HA.out
   clear HA
   simp only [laws_FnDoc.j0] at H
   by_cases c5 : x21_2 = true
   ·subst c5
    have H1 : (some true) = some r := by rw [if_pos rfl] at H; exact H
    clear H
    have H := H1
    clear H1
    obtain rfl := Option.some.inj H
    go_wp2
    go_ret
    exact ⟨u7_, u3_⟩
   ·replace c5 := Bool.eq_false_iff.mpr c5
    subst c5
    have H1 : ((spec_DrawDocPut.f kj2 l0).bind fun bt332 => ((impl_DocPut.f kj2 bt332.1 bt332.2).bind fun t337 => ((impl_DocGet.f kj2 t337).bind fun bt338 => ((spec_DocPut.f kj2 bt332.1 bt332.2).bind fun t344 => (if t337.toList = t344.toList then (if (bt338.2.2 != (t337.toList != ([] : List UInt8))) = true then (laws_FnDoc.j1 kj2 l1 true) else (if bt338.2.2 = true then ((laws_sdDoc.f kj2 bt338.1 bt338.2.1 bt332.1 bt332.2).bind fun t345 => (laws_FnDoc.j1 kj2 l1 (!t345))) else (laws_FnDoc.j1 kj2 l1 false))) else (laws_FnDoc.j1 kj2 l1 true)))))) = some r := by rw [if_neg (show ¬ (false = true) by decide)] at H; exact H
    clear H
    have H := H1
    clear H1
    replace H := Option.bind_eq_some_iff.mp H
    obtain ⟨⟨t332, t333⟩, A60, H⟩ := H
    replace H : ((impl_DocPut.f kj2 t332 t333).bind fun t337 => ((impl_DocGet.f kj2 t337).bind fun bt338 => ((spec_DocPut.f kj2 t332 t333).bind fun t344 => (if t337.toList = t344.toList then (if (bt338.2.2 != (t337.toList != ([] : List UInt8))) = true then (laws_FnDoc.j1 kj2 l1 true) else (if bt338.2.2 = true then ((laws_sdDoc.f kj2 bt338.1 bt338.2.1 t332 t333).bind fun t345 => (laws_FnDoc.j1 kj2 l1 (!t345))) else (laws_FnDoc.j1 kj2 l1 false))) else (laws_FnDoc.j1 kj2 l1 true))))) = some r := H
    have A6 := Aside0.mk A60
    clear A60
    replace H := Option.bind_eq_some_iff.mp H
    obtain ⟨t337, A70, H⟩ := H
    replace H : ((impl_DocGet.f kj2 t337).bind fun bt338 => ((spec_DocPut.f kj2 t332 t333).bind fun t344 => (if t337.toList = t344.toList then (if (bt338.2.2 != (t337.toList != ([] : List UInt8))) = true then (laws_FnDoc.j1 kj2 l1 true) else (if bt338.2.2 = true then ((laws_sdDoc.f kj2 bt338.1 bt338.2.1 t332 t333).bind fun t345 => (laws_FnDoc.j1 kj2 l1 (!t345))) else (laws_FnDoc.j1 kj2 l1 false))) else (laws_FnDoc.j1 kj2 l1 true)))) = some r := H
    have A7 := Aside0.mk A70
    clear A70
    replace H := Option.bind_eq_some_iff.mp H
    obtain ⟨⟨t338, t339, t342⟩, A80, H⟩ := H
    replace H : ((spec_DocPut.f kj2 t332 t333).bind fun t344 => (if t337.toList = t344.toList then (if (t342 != (t337.toList != ([] : List UInt8))) = true then (laws_FnDoc.j1 kj2 l1 true) else (if t342 = true then ((laws_sdDoc.f kj2 t338 t339 t332 t333).bind fun t345 => (laws_FnDoc.j1 kj2 l1 (!t345))) else (laws_FnDoc.j1 kj2 l1 false))) else (laws_FnDoc.j1 kj2 l1 true))) = some r := H
    have A8 := Aside0.mk A80
    clear A80
    have HC9 := Aside0.mk H
    clear H
    go_upto_region 6 with (first | ((with_reducible refine gate_callee (f := 26) rfl ?_); refine goesL_ (some 23) rfl rfl Tryd.func26 u17_ rfl #[.slice A0 l0.length c0] rfl u0_ ?_; (with_reducible refine (spec_DrawDocPut.calls kj2 _ _ l0 t332 t333 _ ?side1 ?side2 A6.out).mono ?_); (case side1 => repeat (first | exact (Kd.C_below HR0.out HB.out) | (with_reducible refine Kd.C_alloc ?_ _) | (with_reducible refine Kd.C_drewN ?_ _) | (with_reducible refine Kd.C_drew ?_))); (case side2 => exact HC0.out); rintro e w10 ⟨v334, rfl, ho0, hb⟩; refine ⟨_, rfl, ?_⟩; have n0_ := Aside0.mk (Kd.R_lower ho0 (below_size u3_)); have n1_ := Aside0.mk (below_step u3_ hb); clear HB; have HO335 := n0_; have HB := n1_; clear n0_ n1_; (try clear hb); (try clear hb2); (try clear hk); (try clear hi); (try clear ho0)) | ((with_reducible refine gate_dst (N := 5) rfl ?_); (try (refine gate_guard u67_ ?_; dsimp only)); refine box_event ?hg (N := 5) ?hd (cs := #[.string (⟨#[]⟩ : ByteArray), .slice none 0 0]) (t := 37) ?hr ?_; (case hd => rfl); (case hg => rfl); (case hr => first | (go_simp; done) | (go_simp; rfl)); intro gb336 hg w11 hbox hb; have n0_ := Aside0.mk (Kd.R_below u96_ hb); have n1_ := Aside0.mk (below_step u3_ hb); have n2_ := Aside0.mk (hbox); have n3_ := Aside0.mk ((by rw [hg]; exact (below_size u3_) : w.heap.size ≤ gb336)); have n4_ := Aside0.mk ((by rw [hg]; exact (below_size u3_) : w.heap.size ≤ gb336)); clear HO335; clear HB; have HO335 := n0_; have HB := n1_; have BK336 := n2_; have GW336 := n3_; have GE336 := n4_; clear n0_ n1_ n2_ n3_ n4_; clear hb hbox hg; have hcz12_0 : w11.cell? ⟨gb336, 0, none⟩ = some (.string (⟨#[]⟩ : ByteArray)) := (blk_cell BK336.out 0).trans rfl; have hcz12_1 : w11.cell? ⟨gb336, 1, none⟩ = some (.slice none 0 0) := (blk_cell BK336.out 1).trans rfl; have hfz12_0 := blk_frozen BK336.out 0; have hfz12_1 := blk_frozen BK336.out 1; obtain ⟨Ao13, co13, eo13⟩ := Kd.R_slice HO335.out; subst eo13) | ((with_reducible refine gate_callee (f := 27) rfl ?_); refine goesL_ (some 25) rfl rfl Tryd.func27 u17_ rfl #[.agg #[.string t332, .slice Ao13 t333.length co13]] rfl u0_ ?_; (with_reducible refine (impl_DocPut.calls kj2 t332 _ _ t333 t337 _ ?side1 ?side2 A7.out).mono ?_); (case side1 => refine (Kd.R_reads' (e := 74) (base := w.heap.size) (ok := fun k_ => True) (n := t333.length) (c := co13) ?_).2.2; exact u130_); (case side2 => exact (Kd.R_reads' HO335.out).2.1); rintro e w14 ⟨rfl, hb⟩; refine ⟨_, rfl, ?_⟩; have n0_ := Aside0.mk (Kd.R_below u130_ hb); have n1_ := Aside0.mk (blk_below (g := gb336) (o := .cells #[.string t332, .slice Ao13 t333.length co13] 37 (0, 0)) (by (with_reducible repeat (first | refine blk_drewN ?_ _ | refine blk_drew ?_ | refine blk_alloc ?_ _)); refine blk_put (cs := #[.string t332, .slice none 0 0]) ?_ 1 _ rfl; (with_reducible repeat (first | refine blk_drewN ?_ _ | refine blk_drew ?_ | refine blk_alloc ?_ _)); refine blk_put (cs := #[.string (⟨#[]⟩ : ByteArray), .slice none 0 0]) ?_ 0 _ rfl; (with_reducible repeat (first | refine blk_drewN ?_ _ | refine blk_drew ?_ | refine blk_alloc ?_ _)); exact BK336.out) hb); have n2_ := Aside0.mk (below_step u60_ hb); clear HO335; clear BK336; clear HB; have HO335 := n0_; have BK336 := n1_; have HB := n2_; clear n0_ n1_ n2_; (try clear hb); (try clear hb2); (try clear hk); (try clear hi)) | ((with_reducible refine gate_callee (f := 18) rfl ?_); refine goesL_ (some 28) rfl rfl Tryd.func18 u17_ rfl #[.string t337] rfl u0_ ?_; (with_reducible refine (impl_DocGet.calls kj2 t337 t338 t339 t342 _ ?side1 A8.out).mono ?_); (case side1 => exact StopsIn.below HG_.out u60_); rintro e w15 ⟨v340, rfl, ho0, hb⟩; refine ⟨_, rfl, ?_⟩; have n0_ := Aside0.mk (Kd.R_elder' u96_ (Kd.R_base ho0) hb); have n1_ := Aside0.mk (Kd.R_lower (Kd.R_new' ho0 (Kd.R_lt u96_)) (below_size u60_)); have n2_ := Aside0.mk (blk_below (g := gb336) (o := .cells #[.string t332, .slice Ao13 t333.length co13] 37 (0, 0)) u13_ hb); have n3_ := Aside0.mk (below_step u60_ hb); clear HO335; clear BK336; clear HB; have HO335 := n0_; have HO341 := n1_; have BK336 := n2_; have HB := n3_; clear n0_ n1_ n2_ n3_; (try clear hb); (try clear hb2); (try clear hk); (try clear hi); (try clear ho0)) | ((with_reducible refine gate_dst (N := 7) rfl ?_); (try (refine gate_guard u67_ ?_; dsimp only)); refine box_event ?hg (N := 7) ?hd (cs := #[.string (⟨#[]⟩ : ByteArray), .slice none 0 0]) (t := 37) ?hr ?_; (case hd => rfl); (case hg => rfl); (case hr => first | (go_simp; done) | (go_simp; rfl)); intro gb343 hg w16 hbox hb; have n0_ := Aside0.mk (Kd.R_below u96_ hb); have n1_ := Aside0.mk (Kd.R_below (by (with_reducible repeat (first | apply Kd.R_alloc | apply Kd.R_drewN | apply Kd.R_drew)); exact HO341.out) hb); have n2_ := Aside0.mk (blk_below (g := gb336) (o := .cells #[.string t332, .slice Ao13 t333.length co13] 37 (0, 0)) u13_ hb); have n3_ := Aside0.mk (below_step u60_ hb); have n4_ := Aside0.mk (hbox); have n5_ := Aside0.mk ((by rw [hg]; exact (below_size u60_) : w.heap.size ≤ gb343)); have n6_ := Aside0.mk ((by rw [hg]; exact (below_size u60_) : w.heap.size ≤ gb343)); have n7_ := Aside0.mk ((by rw [hg]; exact Nat.ne_of_lt (blk_lt (g := gb336) (o := .cells #[.string t332, .slice Ao13 t333.length co13] 37 (0, 0)) u13_) : gb336 ≠ gb343)); have n8_ := Aside0.mk ((by rw [hg]; exact Nat.ne_of_gt (blk_lt (g := gb336) (o := .cells #[.string t332, .slice Ao13 t333.length co13] 37 (0, 0)) u13_) : gb343 ≠ gb336)); clear HO335; clear HO341; clear BK336; clear HB; have HO335 := n0_; have HO341 := n1_; have BK336 := n2_; have HB := n3_; have BK343 := n4_; have GW343 := n5_; have GE343 := n6_; have NB336_343 := n7_; have NB343_336 := n8_; clear n0_ n1_ n2_ n3_ n4_ n5_ n6_ n7_ n8_; clear hb hbox hg; have hnb17 := NB343_336.out; have hnc17 := NB336_343.out; have hcz18_0 : w16.cell? ⟨gb343, 0, none⟩ = some (.string (⟨#[]⟩ : ByteArray)) := (blk_cell BK343.out 0).trans rfl; have hcz18_1 : w16.cell? ⟨gb343, 1, none⟩ = some (.slice none 0 0) := (blk_cell BK343.out 1).trans rfl; have hfz18_0 := blk_frozen BK343.out 0; have hfz18_1 := blk_frozen BK343.out 1; obtain ⟨Ao19, co19, eo19⟩ := Kd.R_slice HO341.out; subst eo19))
    (try simp only [Act.put, List.setIfInBounds_toArray, List.set_cons_zero, List.set_cons_succ])
    go_cut [49] (fun v49 wc => ∃ (kq : Nat) (x49_8 : Bool), v49 = .bool x49_8 ∧ Aside0 (laws_FnDoc.j1 kq l1 x49_8 = some r) ∧ Aside0 (kq ≤ kj2) ∧ Aside0 (Kd.R k74 74 wc w.heap.size (fun k_ => some k_ ≠ ((.slice Ao19 t339.length co19) : Value).ownBlock) (.slice Ao13 t333.length co13) t333) ∧ Aside0 (Kd.R k74 74 wc w.heap.size (fun k_ => some k_ ≠ ((.slice Ao13 t333.length co13) : Value).ownBlock) (.slice Ao19 t339.length co19) t339) ∧ Aside0 (wc.heap[gb336]? = some (.cells #[.string t332, (.slice Ao13 t333.length co13)] 37 (0, 0))) ∧ Aside0 (wc.heap[gb343]? = some (.cells #[.string t338, (.slice Ao19 t339.length co19)] 37 (0, 0))) ∧ Aside0 (Below w.heap.size w wc))
    case first =>
     have H := HC9.out
     clear HC9
     replace H := Option.bind_eq_some_iff.mp H
     obtain ⟨t344, A200, H⟩ := H
     replace H : (if t337.toList = t344.toList then (if (t342 != (t337.toList != ([] : List UInt8))) = true then (laws_FnDoc.j1 kj2 l1 true) else (if t342 = true then ((laws_sdDoc.f kj2 t338 t339 t332 t333).bind fun t345 => (laws_FnDoc.j1 kj2 l1 (!t345))) else (laws_FnDoc.j1 kj2 l1 false))) else (laws_FnDoc.j1 kj2 l1 true)) = some r := H
     have A20 := Aside0.mk A200
     clear A200
     by_cases c21 : t337.toList = t344.toList
     ·rw [if_pos c21] at H
      have c21b0 : (t337.toList == t344.toList) = true := beq_iff_eq.mpr c21
      have c21b1 : (t337.toList != t344.toList) = false := bne_eq_false_iff_eq.mpr c21
      clear c21
      (first | rw [c21b0] | (simp only [i64_w, i32_w]; rw [c21b0]) | skip)
      by_cases c22 : (t342 != (t337.toList != ([] : List UInt8))) = true
      ·rw [if_pos c22] at H
       have c22b0 : (t342 != (t337.toList != ([] : List UInt8))) = true := c22
       (try (have c22e0 : (t342 != (!t337.toList.isEmpty)) = true := by have h_ := c22; rw [show (t337.toList != ([] : List UInt8)) = (!t337.toList.isEmpty) from by cases t337.toList <;> rfl] at h_; simpa using h_))
       (try (have c22e1 : (t342 == (!t337.toList.isEmpty)) = false := by have h_ := c22; rw [show (t337.toList != ([] : List UInt8)) = (!t337.toList.isEmpty) from by cases t337.toList <;> rfl] at h_; simpa using h_))
       (try (have c22e2 : decide (t342 = (!t337.toList.isEmpty)) = false := by have h_ := c22; rw [show (t337.toList != ([] : List UInt8)) = (!t337.toList.isEmpty) from by cases t337.toList <;> rfl] at h_; simpa using h_))
       (try (have c22b1 : decide (t342 = (t337.toList != ([] : List UInt8))) = false := by simpa using c22))
       (try (have c22b2 : (t342 == (t337.toList != ([] : List UInt8))) = false := by simpa using c22))
       (try (have c22b3 : ¬ (t342 = (t337.toList != ([] : List UInt8))) := by simpa using c22))
       clear c22
       have H' := Aside0.mk H
       clear H
       have hnb23 := NB336_343.out
       have hnc23 := NB343_336.out
       have hcz24_0 : w16.cell? ⟨gb336, 0, none⟩ = some (.string t332) := (blk_cell BK336.out 0).trans rfl
       have hcz24_1 : w16.cell? ⟨gb336, 1, none⟩ = some (.slice Ao13 t333.length co13) := (blk_cell BK336.out 1).trans rfl
       have hfz24_0 := blk_frozen BK336.out 0
       have hfz24_1 := blk_frozen BK336.out 1
       go_wp2_with (first | ((with_reducible refine gate_callee (f := 28) rfl ?_); refine goesL_ (some 33) rfl rfl Tryd.func28 u17_ rfl #[.agg #[.string t332, .slice Ao13 t333.length co13]] rfl u0_ ?_; (with_reducible refine (spec_DocPut.calls kj2 t332 _ _ t333 t344 _ ?side1 ?side2 A20.out).mono ?_); (case side1 => refine (Kd.R_reads' (e := 74) (base := w.heap.size) (ok := fun k_ => (True ∧ some k_ ≠ (.slice Ao19 t339.length co19 : Value).ownBlock)) (n := t333.length) (c := co13) ?_).2.2; exact u117_); (case side2 => exact (Kd.R_reads' HO335.out).2.1); rintro e w25 ⟨rfl, hb⟩; refine ⟨_, rfl, ?_⟩; have n0_ := Aside0.mk (Kd.R_below u117_ hb); have n1_ := Aside0.mk (Kd.R_below u120_ hb); have n2_ := Aside0.mk (blk_below (g := gb336) (o := .cells #[.string t332, .slice Ao13 t333.length co13] 37 (0, 0)) u53_ hb); have n3_ := Aside0.mk (blk_below (g := gb343) (o := .cells #[.string t338, .slice Ao19 t339.length co19] 37 (0, 0)) u42_ hb); have n4_ := Aside0.mk (below_step u4_ hb); clear HO335; clear HO341; clear BK336; clear BK343; clear HB; have HO335 := n0_; have HO341 := n1_; have BK336 := n2_; have BK343 := n3_; have HB := n4_; clear n0_ n1_ n2_ n3_ n4_; (try clear hb); (try clear hb2); (try clear hk); (try clear hi)))
       go_meet
       case rel => exact ⟨_, (true), u22_, H', ⟨by have := HJ2.out; first | omega | exact Nat.le_refl _⟩, ⟨u100_⟩, ⟨u101_⟩, ⟨u13_⟩, ⟨u16_⟩, ⟨u4_⟩⟩
      ·rw [if_neg c22] at H
       have c22b0 : (t342 != (t337.toList != ([] : List UInt8))) = false := by simpa using c22
       (try (have c22e0 : (t342 != (!t337.toList.isEmpty)) = false := by have h_ := c22; rw [show (t337.toList != ([] : List UInt8)) = (!t337.toList.isEmpty) from by cases t337.toList <;> rfl] at h_; simpa using h_))
       (try (have c22e1 : (t342 == (!t337.toList.isEmpty)) = true := by have h_ := c22; rw [show (t337.toList != ([] : List UInt8)) = (!t337.toList.isEmpty) from by cases t337.toList <;> rfl] at h_; simpa using h_))
       (try (have c22e2 : decide (t342 = (!t337.toList.isEmpty)) = true := by have h_ := c22; rw [show (t337.toList != ([] : List UInt8)) = (!t337.toList.isEmpty) from by cases t337.toList <;> rfl] at h_; simpa using h_))
       (try (have c22b1 : decide (t342 = (t337.toList != ([] : List UInt8))) = true := by simpa using c22))
       (try (have c22b2 : (t342 == (t337.toList != ([] : List UInt8))) = true := by simpa using c22))
       clear c22
       by_cases c26 : t342 = true
       ·subst c26
        (try (have c22f_ : t337.toList.isEmpty = false := by simpa using c22e0))
        (try (have c22f_ : t337.toList.isEmpty = true := by simpa using c22e0))
        have H1 : ((laws_sdDoc.f kj2 t338 t339 t332 t333).bind fun t345 => (laws_FnDoc.j1 kj2 l1 (!t345))) = some r := by rw [if_pos rfl] at H; exact H
        clear H
        have H := H1
        clear H1
        replace H := Option.bind_eq_some_iff.mp H
        obtain ⟨t345, A270, H⟩ := H
        replace H : (laws_FnDoc.j1 kj2 l1 (!t345)) = some r := H
        have A27 := Aside0.mk A270
        clear A270
        have H' := Aside0.mk H
        clear H
        have hnb28 := NB336_343.out
        have hnc28 := NB343_336.out
        have hcz29_0 : w16.cell? ⟨gb336, 0, none⟩ = some (.string t332) := (blk_cell BK336.out 0).trans rfl
        have hcz29_1 : w16.cell? ⟨gb336, 1, none⟩ = some (.slice Ao13 t333.length co13) := (blk_cell BK336.out 1).trans rfl
        have hfz29_0 := blk_frozen BK336.out 0
        have hfz29_1 := blk_frozen BK336.out 1
        go_wp2_with (first | ((with_reducible refine gate_callee (f := 28) rfl ?_); refine goesL_ (some 33) rfl rfl Tryd.func28 u17_ rfl #[.agg #[.string t332, .slice Ao13 t333.length co13]] rfl u0_ ?_; (with_reducible refine (spec_DocPut.calls kj2 t332 _ _ t333 t344 _ ?side1 ?side2 A20.out).mono ?_); (case side1 => refine (Kd.R_reads' (e := 74) (base := w.heap.size) (ok := fun k_ => (True ∧ some k_ ≠ (.slice Ao19 t339.length co19 : Value).ownBlock)) (n := t333.length) (c := co13) ?_).2.2; exact u117_); (case side2 => exact (Kd.R_reads' HO335.out).2.1); rintro e w30 ⟨rfl, hb⟩; refine ⟨_, rfl, ?_⟩; have n0_ := Aside0.mk (Kd.R_below u117_ hb); have n1_ := Aside0.mk (Kd.R_below u120_ hb); have n2_ := Aside0.mk (blk_below (g := gb336) (o := .cells #[.string t332, .slice Ao13 t333.length co13] 37 (0, 0)) u53_ hb); have n3_ := Aside0.mk (blk_below (g := gb343) (o := .cells #[.string t338, .slice Ao19 t339.length co19] 37 (0, 0)) u42_ hb); have n4_ := Aside0.mk (below_step u4_ hb); clear HO335; clear HO341; clear BK336; clear BK343; clear HB; have HO335 := n0_; have HO341 := n1_; have BK336 := n2_; have BK343 := n3_; have HB := n4_; clear n0_ n1_ n2_ n3_ n4_; (try clear hb); (try clear hb2); (try clear hk); (try clear hi); have hcz31_0 : w30.cell? ⟨gb343, 0, none⟩ = some (.string t338) := (blk_cell BK343.out 0).trans rfl; have hcz31_1 : w30.cell? ⟨gb343, 1, none⟩ = some (.slice Ao19 t339.length co19) := (blk_cell BK343.out 1).trans rfl; have hfz31_0 := blk_frozen BK343.out 0; have hfz31_1 := blk_frozen BK343.out 1; have hcz32_0 : w30.cell? ⟨gb336, 0, none⟩ = some (.string t332) := (blk_cell BK336.out 0).trans rfl; have hcz32_1 : w30.cell? ⟨gb336, 1, none⟩ = some (.slice Ao13 t333.length co13) := (blk_cell BK336.out 1).trans rfl; have hfz32_0 := blk_frozen BK336.out 0; have hfz32_1 := blk_frozen BK336.out 1) | (go_at_call 29; (with_reducible refine (laws_sdDoc.calls kj2 t338 _ _ t339 t332 _ _ t333 t345 _ ?side1 ?side2 ?side3 ?side4 A27.out).mono ?_); (case side1 => repeat (first | exact (Kd.R_reads' HO341.out).2.2 | (with_reducible refine Kd.C_alloc ?_ _) | (with_reducible refine Kd.C_drewN ?_ _) | (with_reducible refine Kd.C_drew ?_))); (case side2 => exact (Kd.R_reads' HO341.out).2.1); (case side3 => repeat (first | exact (Kd.R_reads' HO335.out).2.2 | (with_reducible refine Kd.C_alloc ?_ _) | (with_reducible refine Kd.C_drewN ?_ _) | (with_reducible refine Kd.C_drew ?_))); (case side4 => exact (Kd.R_reads' HO335.out).2.1); rintro e w33 ⟨rfl, hb⟩; have n0_ := Aside0.mk (Kd.R_below u96_ hb); have n1_ := Aside0.mk (Kd.R_below (by (with_reducible repeat (first | apply Kd.R_alloc | apply Kd.R_drewN | apply Kd.R_drew)); exact HO341.out) hb); have n2_ := Aside0.mk (blk_below (g := gb336) (o := .cells #[.string t332, .slice Ao13 t333.length co13] 37 (0, 0)) u13_ hb); have n3_ := Aside0.mk (blk_below (g := gb343) (o := .cells #[.string t338, .slice Ao19 t339.length co19] 37 (0, 0)) u16_ hb); have n4_ := Aside0.mk (below_step u4_ hb); clear HO335; clear HO341; clear BK336; clear BK343; clear HB; have HO335 := n0_; have HO341 := n1_; have BK336 := n2_; have BK343 := n3_; have HB := n4_; clear n0_ n1_ n2_ n3_ n4_; (try clear hb); (try clear hb2); (try clear hk); (try clear hi)))
        go_meet
        case rel => exact ⟨_, (!t345), u22_, H', ⟨by have := HJ2.out; first | omega | exact Nat.le_refl _⟩, ⟨u100_⟩, ⟨u101_⟩, ⟨u13_⟩, ⟨u16_⟩, ⟨u4_⟩⟩
       ·replace c26 := Bool.eq_false_iff.mpr c26
        subst c26
        (try (have c22f_ : t337.toList.isEmpty = false := by simpa using c22e0))
        (try (have c22f_ : t337.toList.isEmpty = true := by simpa using c22e0))
        have H1 : (laws_FnDoc.j1 kj2 l1 false) = some r := by rw [if_neg (show ¬ (false = true) by decide)] at H; exact H
        clear H
        have H := H1
        clear H1
        have H' := Aside0.mk H
        clear H
        have hnb34 := NB336_343.out
        have hnc34 := NB343_336.out
        have hcz35_0 : w16.cell? ⟨gb336, 0, none⟩ = some (.string t332) := (blk_cell BK336.out 0).trans rfl
        have hcz35_1 : w16.cell? ⟨gb336, 1, none⟩ = some (.slice Ao13 t333.length co13) := (blk_cell BK336.out 1).trans rfl
        have hfz35_0 := blk_frozen BK336.out 0
        have hfz35_1 := blk_frozen BK336.out 1
        go_wp2_with (first | ((with_reducible refine gate_callee (f := 28) rfl ?_); refine goesL_ (some 33) rfl rfl Tryd.func28 u17_ rfl #[.agg #[.string t332, .slice Ao13 t333.length co13]] rfl u0_ ?_; (with_reducible refine (spec_DocPut.calls kj2 t332 _ _ t333 t344 _ ?side1 ?side2 A20.out).mono ?_); (case side1 => refine (Kd.R_reads' (e := 74) (base := w.heap.size) (ok := fun k_ => (True ∧ some k_ ≠ (.slice Ao19 t339.length co19 : Value).ownBlock)) (n := t333.length) (c := co13) ?_).2.2; exact u117_); (case side2 => exact (Kd.R_reads' HO335.out).2.1); rintro e w36 ⟨rfl, hb⟩; refine ⟨_, rfl, ?_⟩; have n0_ := Aside0.mk (Kd.R_below u117_ hb); have n1_ := Aside0.mk (Kd.R_below u120_ hb); have n2_ := Aside0.mk (blk_below (g := gb336) (o := .cells #[.string t332, .slice Ao13 t333.length co13] 37 (0, 0)) u53_ hb); have n3_ := Aside0.mk (blk_below (g := gb343) (o := .cells #[.string t338, .slice Ao19 t339.length co19] 37 (0, 0)) u42_ hb); have n4_ := Aside0.mk (below_step u4_ hb); clear HO335; clear HO341; clear BK336; clear BK343; clear HB; have HO335 := n0_; have HO341 := n1_; have BK336 := n2_; have BK343 := n3_; have HB := n4_; clear n0_ n1_ n2_ n3_ n4_; (try clear hb); (try clear hb2); (try clear hk); (try clear hi)))
        go_meet
        case rel => exact ⟨_, (false), u22_, H', ⟨by have := HJ2.out; first | omega | exact Nat.le_refl _⟩, ⟨u100_⟩, ⟨u101_⟩, ⟨u13_⟩, ⟨u16_⟩, ⟨u4_⟩⟩
     ·rw [if_neg c21] at H
      have c21b0 : (t337.toList == t344.toList) = false := beq_eq_false_iff_ne.mpr c21
      have c21b1 : (t337.toList != t344.toList) = true := bne_iff_ne.mpr c21
      (first | rw [c21b0] | (simp only [i64_w, i32_w]; rw [c21b0]) | skip)
      have H' := Aside0.mk H
      clear H
      have hnb37 := NB336_343.out
      have hnc37 := NB343_336.out
      have hcz38_0 : w16.cell? ⟨gb336, 0, none⟩ = some (.string t332) := (blk_cell BK336.out 0).trans rfl
      have hcz38_1 : w16.cell? ⟨gb336, 1, none⟩ = some (.slice Ao13 t333.length co13) := (blk_cell BK336.out 1).trans rfl
      have hfz38_0 := blk_frozen BK336.out 0
      have hfz38_1 := blk_frozen BK336.out 1
      go_wp2_with (first | ((with_reducible refine gate_callee (f := 28) rfl ?_); refine goesL_ (some 33) rfl rfl Tryd.func28 u17_ rfl #[.agg #[.string t332, .slice Ao13 t333.length co13]] rfl u0_ ?_; (with_reducible refine (spec_DocPut.calls kj2 t332 _ _ t333 t344 _ ?side1 ?side2 A20.out).mono ?_); (case side1 => refine (Kd.R_reads' (e := 74) (base := w.heap.size) (ok := fun k_ => (True ∧ some k_ ≠ (.slice Ao19 t339.length co19 : Value).ownBlock)) (n := t333.length) (c := co13) ?_).2.2; exact u117_); (case side2 => exact (Kd.R_reads' HO335.out).2.1); rintro e w39 ⟨rfl, hb⟩; refine ⟨_, rfl, ?_⟩; have n0_ := Aside0.mk (Kd.R_below u117_ hb); have n1_ := Aside0.mk (Kd.R_below u120_ hb); have n2_ := Aside0.mk (blk_below (g := gb336) (o := .cells #[.string t332, .slice Ao13 t333.length co13] 37 (0, 0)) u53_ hb); have n3_ := Aside0.mk (blk_below (g := gb343) (o := .cells #[.string t338, .slice Ao19 t339.length co19] 37 (0, 0)) u42_ hb); have n4_ := Aside0.mk (below_step u4_ hb); clear HO335; clear HO341; clear BK336; clear BK343; clear HB; have HO335 := n0_; have HO341 := n1_; have BK336 := n2_; have BK343 := n3_; have HB := n4_; clear n0_ n1_ n2_ n3_ n4_; (try clear hb); (try clear hb2); (try clear hk); (try clear hi)))
      go_meet
      case rel => exact ⟨_, (true), u22_, H', ⟨by have := HJ2.out; first | omega | exact Nat.le_refl _⟩, ⟨u100_⟩, ⟨u101_⟩, ⟨u13_⟩, ⟨u16_⟩, ⟨u4_⟩⟩
    case rest =>
     clear HC9
     try clear c1
     try clear c2
     try clear p2
     try clear c3
     try clear c4
     try clear c4b0
     try clear c4b1
     try clear c5
     try clear c7
     try clear c17
     try clear c18
     try clear c21
     try clear c21b0
     try clear c21b1
     try clear c22
     try clear c22b0
     try clear c22b1
     try clear c22b2
     try clear c23
     try clear c26
     try clear c27
     try clear c28
     try clear c34
     try clear c37
     try clear hcz12_0
     try clear hcz12_1
     try clear hcz18_0
     try clear hcz18_1
     try clear hcz24_0
     try clear hcz24_1
     try clear hcz29_0
     try clear hcz29_1
     try clear hcz31_0
     try clear hcz31_1
     try clear hcz32_0
     try clear hcz32_1
     try clear hcz35_0
     try clear hcz35_1
     try clear hcz38_0
     try clear hcz38_1
     try clear hfz12_0
     try clear hfz12_1
     try clear hfz18_0
     try clear hfz18_1
     try clear hfz24_0
     try clear hfz24_1
     try clear hfz29_0
     try clear hfz29_1
     try clear hfz31_0
     try clear hfz31_1
     try clear hfz32_0
     try clear hfz32_1
     try clear hfz35_0
     try clear hfz35_1
     try clear hfz38_0
     try clear hfz38_1
     try clear p2
     obtain ⟨kq, x49_8, rfl, HA, HJ8, HO_337001, HO_344001, BK336, BK343, HB⟩ := hcut
     cases kq with
     | zero => exact absurd HA.out (by simp [laws_FnDoc.j1])
     | succ kj8 =>
      have H := HA.out
      clear HA
      simp only [laws_FnDoc.j1] at H
      by_cases c40 : x49_8 = true
      ·subst c40
       have H1 : (some false) = some r := by rw [if_pos rfl] at H; exact H
       clear H
       have H := H1
       clear H1
       obtain rfl := Option.some.inj H
       go_wp2
       go_ret
       exact ⟨u7_, u4_⟩
      ·replace c40 := Bool.eq_false_iff.mpr c40
       subst c40
       have H1 : ((spec_DrawDocGet.f kj8 l1).bind fun t346 => ((impl_DocGet.f kj8 t346).bind fun bt347 => ((spec_DocGet.f kj8 t346).bind fun bt353 => (if (bt347.2.2 == bt353.2.2) = true then ((laws_sdDoc.f kj8 bt347.1 bt347.2.1 bt353.1 bt353.2.1).bind fun t359 => (if t359 = true then (if bt347.2.2 = true then ((impl_DocPut.f kj8 bt347.1 bt347.2.1).bind fun t360 => (some (t360.toList == t346.toList))) else (some true)) else (some false))) else (some false))))) = some r := by rw [if_neg (show ¬ (false = true) by decide)] at H; exact H
       clear H
       have H := H1
       clear H1
       replace H := Option.bind_eq_some_iff.mp H
       obtain ⟨t346, A410, H⟩ := H
       replace H : ((impl_DocGet.f kj8 t346).bind fun bt347 => ((spec_DocGet.f kj8 t346).bind fun bt353 => (if (bt347.2.2 == bt353.2.2) = true then ((laws_sdDoc.f kj8 bt347.1 bt347.2.1 bt353.1 bt353.2.1).bind fun t359 => (if t359 = true then (if bt347.2.2 = true then ((impl_DocPut.f kj8 bt347.1 bt347.2.1).bind fun t360 => (some (t360.toList == t346.toList))) else (some true)) else (some false))) else (some false)))) = some r := H
       have A41 := Aside0.mk A410
       clear A410
       replace H := Option.bind_eq_some_iff.mp H
       obtain ⟨⟨t347, t348, t351⟩, A420, H⟩ := H
       replace H : ((spec_DocGet.f kj8 t346).bind fun bt353 => (if (t351 == bt353.2.2) = true then ((laws_sdDoc.f kj8 t347 t348 bt353.1 bt353.2.1).bind fun t359 => (if t359 = true then (if t351 = true then ((impl_DocPut.f kj8 t347 t348).bind fun t360 => (some (t360.toList == t346.toList))) else (some true)) else (some false))) else (some false))) = some r := H
       have A42 := Aside0.mk A420
       clear A420
       replace H := Option.bind_eq_some_iff.mp H
       obtain ⟨⟨t353, t354, t357⟩, A430, H⟩ := H
       replace H : (if (t351 == t357) = true then ((laws_sdDoc.f kj8 t347 t348 t353 t354).bind fun t359 => (if t359 = true then (if t351 = true then ((impl_DocPut.f kj8 t347 t348).bind fun t360 => (some (t360.toList == t346.toList))) else (some true)) else (some false))) else (some false)) = some r := H
       have A43 := Aside0.mk A430
       clear A430
       by_cases c44 : (t351 == t357) = true
       ·rw [if_pos c44] at H
        have c44b0 : (t351 == t357) = true := c44
        (try (have c44b1 : decide (t351 = t357) = true := by simpa using c44))
        (try (have c44b2 : (t351 == t357) = true := by simpa using c44))
        clear c44
        replace H := Option.bind_eq_some_iff.mp H
        obtain ⟨t359, A450, H⟩ := H
        replace H : (if t359 = true then (if t351 = true then ((impl_DocPut.f kj8 t347 t348).bind fun t360 => (some (t360.toList == t346.toList))) else (some true)) else (some false)) = some r := H
        have A45 := Aside0.mk A450
        clear A450
        by_cases c46 : t359 = true
        ·subst c46
         have H1 : (if t351 = true then ((impl_DocPut.f kj8 t347 t348).bind fun t360 => (some (t360.toList == t346.toList))) else (some true)) = some r := by rw [if_pos rfl] at H; exact H
         clear H
         have H := H1
         clear H1
         by_cases c47 : t351 = true
         ·subst c47
          have H1 : ((impl_DocPut.f kj8 t347 t348).bind fun t360 => (some (t360.toList == t346.toList))) = some r := by rw [if_pos rfl] at H; exact H
          clear H
          have H := H1
          clear H1
          replace H := Option.bind_eq_some_iff.mp H
          obtain ⟨t360, A480, H⟩ := H
          replace H : (some (t360.toList == t346.toList)) = some r := H
          have A48 := Aside0.mk A480
          clear A480
          obtain rfl := Option.some.inj H
          go_wp2_with (first | ((with_reducible refine gate_callee (f := 30) rfl ?_); refine goesL_ (some 51) rfl rfl Tryd.func30 u17_ rfl #[.slice A1 l1.length c1] rfl u0_ ?_; (with_reducible refine (spec_DrawDocGet.calls kj8 _ _ l1 t346 _ ?side1 ?side2 A41.out).mono ?_); (case side1 => repeat (first | exact (Kd.C_below HR1.out HB.out) | (with_reducible refine Kd.C_alloc ?_ _) | (with_reducible refine Kd.C_drewN ?_ _) | (with_reducible refine Kd.C_drew ?_))); (case side2 => exact HC1.out); rintro e w49 ⟨rfl, hb⟩; refine ⟨_, rfl, ?_⟩; have n0_ := Aside0.mk (Kd.R_below u31_ hb); have n1_ := Aside0.mk (Kd.R_below u32_ hb); have n2_ := Aside0.mk (blk_below (g := gb336) (o := .cells #[.string t332, .slice Ao13 t333.length co13] 37 (0, 0)) u13_ hb); have n3_ := Aside0.mk (blk_below (g := gb343) (o := .cells #[.string t338, .slice Ao19 t339.length co19] 37 (0, 0)) u16_ hb); have n4_ := Aside0.mk (below_step u4_ hb); clear HO_337001; clear HO_344001; clear BK336; clear BK343; clear HB; have HO_337001 := n0_; have HO_344001 := n1_; have BK336 := n2_; have BK343 := n3_; have HB := n4_; clear n0_ n1_ n2_ n3_ n4_; (try clear hb); (try clear hb2); (try clear hk); (try clear hi)) | ((with_reducible refine gate_callee (f := 18) rfl ?_); refine goesL_ (some 54) rfl rfl Tryd.func18 u17_ rfl #[.string t346] rfl u0_ ?_; (with_reducible refine (impl_DocGet.calls kj8 t346 t347 t348 true _ ?side1 A42.out).mono ?_); (case side1 => exact StopsIn.below HG_.out u4_); rintro e w50 ⟨v349, rfl, ho0, hb⟩; refine ⟨_, rfl, ?_⟩; have n0_ := Aside0.mk (Kd.R_elder' u31_ (Kd.R_base ho0) hb); have n1_ := Aside0.mk (Kd.R_elder' u32_ (Kd.R_base ho0) hb); have n2_ := Aside0.mk (Kd.R_lower (Kd.R_new' (Kd.R_new' ho0 (Kd.R_lt u31_)) (Kd.R_lt u32_)) (below_size u4_)); have n3_ := Aside0.mk (blk_below (g := gb336) (o := .cells #[.string t332, .slice Ao13 t333.length co13] 37 (0, 0)) u13_ hb); have n4_ := Aside0.mk (blk_below (g := gb343) (o := .cells #[.string t338, .slice Ao19 t339.length co19] 37 (0, 0)) u16_ hb); have n5_ := Aside0.mk (below_step u4_ hb); clear HO_337001; clear HO_344001; clear BK336; clear BK343; clear HB; have HO_337001 := n0_; have HO_344001 := n1_; have HO350 := n2_; have BK336 := n3_; have BK343 := n4_; have HB := n5_; clear n0_ n1_ n2_ n3_ n4_ n5_; (try clear hb); (try clear hb2); (try clear hk); (try clear hi); (try clear ho0)) | ((with_reducible refine gate_dst (N := 10) rfl ?_); (try (refine gate_guard u67_ ?_; dsimp only)); refine box_event ?hg (N := 10) ?hd (cs := #[.string (⟨#[]⟩ : ByteArray), .slice none 0 0]) (t := 37) ?hr ?_; (case hd => rfl); (case hg => rfl); (case hr => first | (go_simp; done) | (go_simp; rfl)); intro gb352 hg w51 hbox hb; have n0_ := Aside0.mk (Kd.R_below u31_ hb); have n1_ := Aside0.mk (Kd.R_below u32_ hb); have n2_ := Aside0.mk (Kd.R_below u70_ hb); have n3_ := Aside0.mk (blk_below (g := gb336) (o := .cells #[.string t332, .slice Ao13 t333.length co13] 37 (0, 0)) u13_ hb); have n4_ := Aside0.mk (blk_below (g := gb343) (o := .cells #[.string t338, .slice Ao19 t339.length co19] 37 (0, 0)) u16_ hb); have n5_ := Aside0.mk (below_step u4_ hb); have n6_ := Aside0.mk (hbox); have n7_ := Aside0.mk ((by rw [hg]; exact (below_size u4_) : w.heap.size ≤ gb352)); have n8_ := Aside0.mk ((by rw [hg]; exact (below_size u4_) : w.heap.size ≤ gb352)); have n9_ := Aside0.mk ((by rw [hg]; exact Nat.ne_of_lt (blk_lt (g := gb336) (o := .cells #[.string t332, .slice Ao13 t333.length co13] 37 (0, 0)) u13_) : gb336 ≠ gb352)); have n10_ := Aside0.mk ((by rw [hg]; exact Nat.ne_of_gt (blk_lt (g := gb336) (o := .cells #[.string t332, .slice Ao13 t333.length co13] 37 (0, 0)) u13_) : gb352 ≠ gb336)); have n11_ := Aside0.mk ((by rw [hg]; exact Nat.ne_of_lt (blk_lt (g := gb343) (o := .cells #[.string t338, .slice Ao19 t339.length co19] 37 (0, 0)) u16_) : gb343 ≠ gb352)); have n12_ := Aside0.mk ((by rw [hg]; exact Nat.ne_of_gt (blk_lt (g := gb343) (o := .cells #[.string t338, .slice Ao19 t339.length co19] 37 (0, 0)) u16_) : gb352 ≠ gb343)); clear HO_337001; clear HO_344001; clear HO350; clear BK336; clear BK343; clear HB; have HO_337001 := n0_; have HO_344001 := n1_; have HO350 := n2_; have BK336 := n3_; have BK343 := n4_; have HB := n5_; have BK352 := n6_; have GW352 := n7_; have GE352 := n8_; have NB336_352 := n9_; have NB352_336 := n10_; have NB343_352 := n11_; have NB352_343 := n12_; clear n0_ n1_ n2_ n3_ n4_ n5_ n6_ n7_ n8_ n9_ n10_ n11_ n12_; clear hb hbox hg; have hnb52 := NB352_336.out; have hnc52 := NB336_352.out; have hnb53 := NB352_343.out; have hnc53 := NB343_352.out; have hcz54_0 : w51.cell? ⟨gb352, 0, none⟩ = some (.string (⟨#[]⟩ : ByteArray)) := (blk_cell BK352.out 0).trans rfl; have hcz54_1 : w51.cell? ⟨gb352, 1, none⟩ = some (.slice none 0 0) := (blk_cell BK352.out 1).trans rfl; have hfz54_0 := blk_frozen BK352.out 0; have hfz54_1 := blk_frozen BK352.out 1; obtain ⟨Ao55, co55, eo55⟩ := Kd.R_slice HO350.out; subst eo55) | ((with_reducible refine gate_callee (f := 17) rfl ?_); refine goesL_ (some 59) rfl rfl Tryd.func17 u17_ rfl #[.string t346] rfl u0_ ?_; (with_reducible refine (spec_DocGet.calls kj8 t346 t353 t354 t357 _ A43.out).mono ?_); rintro e w56 ⟨v355, rfl, ho0, hb⟩; refine ⟨_, rfl, ?_⟩; have n0_ := Aside0.mk (Kd.R_elder' u123_ (Kd.R_base ho0) hb); have n1_ := Aside0.mk (Kd.R_elder' u124_ (Kd.R_base ho0) hb); have n2_ := Aside0.mk (Kd.R_elder' u131_ (Kd.R_base ho0) hb); have n3_ := Aside0.mk (Kd.R_lower (Kd.R_new' (Kd.R_new' (Kd.R_new' ho0 (Kd.R_lt u123_)) (Kd.R_lt u124_)) (Kd.R_lt u131_)) (below_size u15_)); have n4_ := Aside0.mk (blk_below (g := gb336) (o := .cells #[.string t332, .slice Ao13 t333.length co13] 37 (0, 0)) u54_ hb); have n5_ := Aside0.mk (blk_below (g := gb343) (o := .cells #[.string t338, .slice Ao19 t339.length co19] 37 (0, 0)) u55_ hb); have n6_ := Aside0.mk (blk_below (g := gb352) (o := .cells #[.string t347, .slice Ao55 t348.length co55] 37 (0, 0)) u43_ hb); have n7_ := Aside0.mk (below_step u15_ hb); clear HO_337001; clear HO_344001; clear HO350; clear BK336; clear BK343; clear BK352; clear HB; have HO_337001 := n0_; have HO_344001 := n1_; have HO350 := n2_; have HO356 := n3_; have BK336 := n4_; have BK343 := n5_; have BK352 := n6_; have HB := n7_; clear n0_ n1_ n2_ n3_ n4_ n5_ n6_ n7_; (try clear hb); (try clear hb2); (try clear hk); (try clear hi); (try clear ho0)) | ((with_reducible refine gate_dst (N := 12) rfl ?_); (try (refine gate_guard u67_ ?_; dsimp only)); refine box_event ?hg (N := 12) ?hd (cs := #[.string (⟨#[]⟩ : ByteArray), .slice none 0 0]) (t := 37) ?hr ?_; (case hd => rfl); (case hg => rfl); (case hr => first | (go_simp; done) | (go_simp; rfl)); intro gb358 hg w57 hbox hb; have n0_ := Aside0.mk (Kd.R_below u31_ hb); have n1_ := Aside0.mk (Kd.R_below u32_ hb); have n2_ := Aside0.mk (Kd.R_below u70_ hb); have n3_ := Aside0.mk (Kd.R_below u97_ hb); have n4_ := Aside0.mk (blk_below (g := gb336) (o := .cells #[.string t332, .slice Ao13 t333.length co13] 37 (0, 0)) u13_ hb); have n5_ := Aside0.mk (blk_below (g := gb343) (o := .cells #[.string t338, .slice Ao19 t339.length co19] 37 (0, 0)) u16_ hb); have n6_ := Aside0.mk (blk_below (g := gb352) (o := .cells #[.string t347, .slice Ao55 t348.length co55] 37 (0, 0)) u47_ hb); have n7_ := Aside0.mk (below_step u15_ hb); have n8_ := Aside0.mk (hbox); have n9_ := Aside0.mk ((by rw [hg]; exact (below_size u15_) : w.heap.size ≤ gb358)); have n10_ := Aside0.mk ((by rw [hg]; exact (below_size u15_) : w.heap.size ≤ gb358)); have n11_ := Aside0.mk ((by rw [hg]; exact Nat.ne_of_lt (blk_lt (g := gb336) (o := .cells #[.string t332, .slice Ao13 t333.length co13] 37 (0, 0)) u13_) : gb336 ≠ gb358)); have n12_ := Aside0.mk ((by rw [hg]; exact Nat.ne_of_gt (blk_lt (g := gb336) (o := .cells #[.string t332, .slice Ao13 t333.length co13] 37 (0, 0)) u13_) : gb358 ≠ gb336)); have n13_ := Aside0.mk ((by rw [hg]; exact Nat.ne_of_lt (blk_lt (g := gb343) (o := .cells #[.string t338, .slice Ao19 t339.length co19] 37 (0, 0)) u16_) : gb343 ≠ gb358)); have n14_ := Aside0.mk ((by rw [hg]; exact Nat.ne_of_gt (blk_lt (g := gb343) (o := .cells #[.string t338, .slice Ao19 t339.length co19] 37 (0, 0)) u16_) : gb358 ≠ gb343)); have n15_ := Aside0.mk ((by rw [hg]; exact Nat.ne_of_lt (blk_lt (g := gb352) (o := .cells #[.string t347, .slice Ao55 t348.length co55] 37 (0, 0)) u47_) : gb352 ≠ gb358)); have n16_ := Aside0.mk ((by rw [hg]; exact Nat.ne_of_gt (blk_lt (g := gb352) (o := .cells #[.string t347, .slice Ao55 t348.length co55] 37 (0, 0)) u47_) : gb358 ≠ gb352)); clear HO_337001; clear HO_344001; clear HO350; clear HO356; clear BK336; clear BK343; clear BK352; clear HB; have HO_337001 := n0_; have HO_344001 := n1_; have HO350 := n2_; have HO356 := n3_; have BK336 := n4_; have BK343 := n5_; have BK352 := n6_; have HB := n7_; have BK358 := n8_; have GW358 := n9_; have GE358 := n10_; have NB336_358 := n11_; have NB358_336 := n12_; have NB343_358 := n13_; have NB358_343 := n14_; have NB352_358 := n15_; have NB358_352 := n16_; clear n0_ n1_ n2_ n3_ n4_ n5_ n6_ n7_ n8_ n9_ n10_ n11_ n12_ n13_ n14_ n15_ n16_; clear hb hbox hg; have hnb58 := NB358_336.out; have hnc58 := NB336_358.out; have hnb59 := NB358_343.out; have hnc59 := NB343_358.out; have hnb60 := NB358_352.out; have hnc60 := NB352_358.out; have hcz61_0 : w57.cell? ⟨gb358, 0, none⟩ = some (.string (⟨#[]⟩ : ByteArray)) := (blk_cell BK358.out 0).trans rfl; have hcz61_1 : w57.cell? ⟨gb358, 1, none⟩ = some (.slice none 0 0) := (blk_cell BK358.out 1).trans rfl; have hfz61_0 := blk_frozen BK358.out 0; have hfz61_1 := blk_frozen BK358.out 1; obtain ⟨Ao62, co62, eo62⟩ := Kd.R_slice HO356.out; subst eo62; have hcz63_0 : w57.cell? ⟨gb352, 0, none⟩ = some (.string t347) := (blk_cell BK352.out 0).trans rfl; have hcz63_1 : w57.cell? ⟨gb352, 1, none⟩ = some (.slice Ao55 t348.length co55) := (blk_cell BK352.out 1).trans rfl; have hfz63_0 := blk_frozen BK352.out 0; have hfz63_1 := blk_frozen BK352.out 1) | (go_at_call 29; (with_reducible refine (laws_sdDoc.calls kj8 t347 _ _ t348 t353 _ _ t354 true _ ?side1 ?side2 ?side3 ?side4 A45.out).mono ?_); (case side1 => refine (Kd.R_reads' (e := 74) (base := w.heap.size) (ok := fun k_ => (((True ∧ some k_ ≠ (.slice Ao13 t333.length co13 : Value).ownBlock) ∧ some k_ ≠ (.slice Ao19 t339.length co19 : Value).ownBlock) ∧ some k_ ≠ (.slice Ao62 t354.length co62 : Value).ownBlock)) (n := t348.length) (c := co55) ?_).2.2; exact u132_); (case side2 => exact (Kd.R_reads' HO350.out).2.1); (case side3 => refine (Kd.R_reads' (e := 74) (base := w.heap.size) (ok := fun k_ => (((True ∧ some k_ ≠ (.slice Ao13 t333.length co13 : Value).ownBlock) ∧ some k_ ≠ (.slice Ao19 t339.length co19 : Value).ownBlock) ∧ some k_ ≠ (.slice Ao55 t348.length co55 : Value).ownBlock)) (n := t354.length) (c := co62) ?_).2.2; exact u133_); (case side4 => exact (Kd.R_reads' HO356.out).2.1); rintro e w64 ⟨rfl, hb⟩; have n0_ := Aside0.mk (Kd.R_below (by (with_reducible repeat (first | apply Kd.R_alloc | apply Kd.R_drewN | apply Kd.R_drew)); exact (Kd.R_mono (Kd.R_far (p := ⟨gb358, 1, none⟩) (Kd.R_far (p := ⟨gb358, 0, none⟩) (Kd.R_types HO_337001.out BK358.out u39_) (fun _ hk => hk.2) (.string t353)) (fun _ hk => hk.2) (.slice Ao62 t354.length co62)) (fun _ h_ => h_.1))) hb); have n1_ := Aside0.mk (Kd.R_below (by (with_reducible repeat (first | apply Kd.R_alloc | apply Kd.R_drewN | apply Kd.R_drew)); exact (Kd.R_mono (Kd.R_far (p := ⟨gb358, 1, none⟩) (Kd.R_far (p := ⟨gb358, 0, none⟩) (Kd.R_types HO_344001.out BK358.out u39_) (fun _ hk => hk.2) (.string t353)) (fun _ hk => hk.2) (.slice Ao62 t354.length co62)) (fun _ h_ => h_.1))) hb); have n2_ := Aside0.mk (Kd.R_below u132_ hb); have n3_ := Aside0.mk (Kd.R_below u133_ hb); have n4_ := Aside0.mk (blk_below (g := gb336) (o := .cells #[.string t332, .slice Ao13 t333.length co13] 37 (0, 0)) u77_ hb); have n5_ := Aside0.mk (blk_below (g := gb343) (o := .cells #[.string t338, .slice Ao19 t339.length co19] 37 (0, 0)) u78_ hb); have n6_ := Aside0.mk (blk_below (g := gb352) (o := .cells #[.string t347, .slice Ao55 t348.length co55] 37 (0, 0)) u79_ hb); have n7_ := Aside0.mk (blk_below (g := gb358) (o := .cells #[.string t353, .slice Ao62 t354.length co62] 37 (0, 0)) u64_ hb); have n8_ := Aside0.mk (below_step u38_ hb); clear HO_337001; clear HO_344001; clear HO350; clear HO356; clear BK336; clear BK343; clear BK352; clear BK358; clear HB; have HO_337001 := n0_; have HO_344001 := n1_; have HO350 := n2_; have HO356 := n3_; have BK336 := n4_; have BK343 := n5_; have BK352 := n6_; have BK358 := n7_; have HB := n8_; clear n0_ n1_ n2_ n3_ n4_ n5_ n6_ n7_ n8_; (try clear hb); (try clear hb2); (try clear hk); (try clear hi); have hcz65_0 : w64.cell? ⟨gb352, 0, none⟩ = some (.string t347) := (blk_cell BK352.out 0).trans rfl; have hcz65_1 : w64.cell? ⟨gb352, 1, none⟩ = some (.slice Ao55 t348.length co55) := (blk_cell BK352.out 1).trans rfl; have hfz65_0 := blk_frozen BK352.out 0; have hfz65_1 := blk_frozen BK352.out 1) | (go_at_call 27; (with_reducible refine (impl_DocPut.calls kj8 t347 _ _ t348 t360 _ ?side1 ?side2 A48.out).mono ?_); (case side1 => repeat (first | exact (Kd.R_reads' HO350.out).2.2 | (with_reducible refine Kd.C_alloc ?_ _) | (with_reducible refine Kd.C_drewN ?_ _) | (with_reducible refine Kd.C_drew ?_))); (case side2 => exact (Kd.R_reads' HO350.out).2.1); rintro e w66 ⟨rfl, hb⟩; have n0_ := Aside0.mk (Kd.R_below u31_ hb); have n1_ := Aside0.mk (Kd.R_below u32_ hb); have n2_ := Aside0.mk (Kd.R_below u70_ hb); have n3_ := Aside0.mk (Kd.R_below u97_ hb); have n4_ := Aside0.mk (blk_below (g := gb336) (o := .cells #[.string t332, .slice Ao13 t333.length co13] 37 (0, 0)) u13_ hb); have n5_ := Aside0.mk (blk_below (g := gb343) (o := .cells #[.string t338, .slice Ao19 t339.length co19] 37 (0, 0)) u16_ hb); have n6_ := Aside0.mk (blk_below (g := gb352) (o := .cells #[.string t347, .slice Ao55 t348.length co55] 37 (0, 0)) u47_ hb); have n7_ := Aside0.mk (blk_below (g := gb358) (o := .cells #[.string t353, .slice Ao62 t354.length co62] 37 (0, 0)) (by (with_reducible repeat (first | refine blk_drewN ?_ _ | refine blk_drew ?_ | refine blk_alloc ?_ _)); exact BK358.out) hb); have n8_ := Aside0.mk (below_step u38_ hb); clear HO_337001; clear HO_344001; clear HO350; clear HO356; clear BK336; clear BK343; clear BK352; clear BK358; clear HB; have HO_337001 := n0_; have HO_344001 := n1_; have HO350 := n2_; have HO356 := n3_; have BK336 := n4_; have BK343 := n5_; have BK352 := n6_; have BK358 := n7_; have HB := n8_; clear n0_ n1_ n2_ n3_ n4_ n5_ n6_ n7_ n8_; (try clear hb); (try clear hb2); (try clear hk); (try clear hi)))
          go_ret
          exact ⟨u7_, u38_⟩
         ·replace c47 := Bool.eq_false_iff.mpr c47
          subst c47
          have H1 : (some true) = some r := by rw [if_neg (show ¬ (false = true) by decide)] at H; exact H
          clear H
          have H := H1
          clear H1
          obtain rfl := Option.some.inj H
          go_wp2_with (first | ((with_reducible refine gate_callee (f := 30) rfl ?_); refine goesL_ (some 51) rfl rfl Tryd.func30 u17_ rfl #[.slice A1 l1.length c1] rfl u0_ ?_; (with_reducible refine (spec_DrawDocGet.calls kj8 _ _ l1 t346 _ ?side1 ?side2 A41.out).mono ?_); (case side1 => repeat (first | exact (Kd.C_below HR1.out HB.out) | (with_reducible refine Kd.C_alloc ?_ _) | (with_reducible refine Kd.C_drewN ?_ _) | (with_reducible refine Kd.C_drew ?_))); (case side2 => exact HC1.out); rintro e w67 ⟨rfl, hb⟩; refine ⟨_, rfl, ?_⟩; have n0_ := Aside0.mk (Kd.R_below u31_ hb); have n1_ := Aside0.mk (Kd.R_below u32_ hb); have n2_ := Aside0.mk (blk_below (g := gb336) (o := .cells #[.string t332, .slice Ao13 t333.length co13] 37 (0, 0)) u13_ hb); have n3_ := Aside0.mk (blk_below (g := gb343) (o := .cells #[.string t338, .slice Ao19 t339.length co19] 37 (0, 0)) u16_ hb); have n4_ := Aside0.mk (below_step u4_ hb); clear HO_337001; clear HO_344001; clear BK336; clear BK343; clear HB; have HO_337001 := n0_; have HO_344001 := n1_; have BK336 := n2_; have BK343 := n3_; have HB := n4_; clear n0_ n1_ n2_ n3_ n4_; (try clear hb); (try clear hb2); (try clear hk); (try clear hi)) | ((with_reducible refine gate_callee (f := 18) rfl ?_); refine goesL_ (some 54) rfl rfl Tryd.func18 u17_ rfl #[.string t346] rfl u0_ ?_; (with_reducible refine (impl_DocGet.calls kj8 t346 t347 t348 false _ ?side1 A42.out).mono ?_); (case side1 => exact StopsIn.below HG_.out u4_); rintro e w68 ⟨v349, rfl, ho0, hb⟩; refine ⟨_, rfl, ?_⟩; have n0_ := Aside0.mk (Kd.R_elder' u31_ (Kd.R_base ho0) hb); have n1_ := Aside0.mk (Kd.R_elder' u32_ (Kd.R_base ho0) hb); have n2_ := Aside0.mk (Kd.R_lower (Kd.R_new' (Kd.R_new' ho0 (Kd.R_lt u31_)) (Kd.R_lt u32_)) (below_size u4_)); have n3_ := Aside0.mk (blk_below (g := gb336) (o := .cells #[.string t332, .slice Ao13 t333.length co13] 37 (0, 0)) u13_ hb); have n4_ := Aside0.mk (blk_below (g := gb343) (o := .cells #[.string t338, .slice Ao19 t339.length co19] 37 (0, 0)) u16_ hb); have n5_ := Aside0.mk (below_step u4_ hb); clear HO_337001; clear HO_344001; clear BK336; clear BK343; clear HB; have HO_337001 := n0_; have HO_344001 := n1_; have HO350 := n2_; have BK336 := n3_; have BK343 := n4_; have HB := n5_; clear n0_ n1_ n2_ n3_ n4_ n5_; (try clear hb); (try clear hb2); (try clear hk); (try clear hi); (try clear ho0)) | ((with_reducible refine gate_dst (N := 10) rfl ?_); (try (refine gate_guard u67_ ?_; dsimp only)); refine box_event ?hg (N := 10) ?hd (cs := #[.string (⟨#[]⟩ : ByteArray), .slice none 0 0]) (t := 37) ?hr ?_; (case hd => rfl); (case hg => rfl); (case hr => first | (go_simp; done) | (go_simp; rfl)); intro gb352 hg w69 hbox hb; have n0_ := Aside0.mk (Kd.R_below u31_ hb); have n1_ := Aside0.mk (Kd.R_below u32_ hb); have n2_ := Aside0.mk (Kd.R_below u70_ hb); have n3_ := Aside0.mk (blk_below (g := gb336) (o := .cells #[.string t332, .slice Ao13 t333.length co13] 37 (0, 0)) u13_ hb); have n4_ := Aside0.mk (blk_below (g := gb343) (o := .cells #[.string t338, .slice Ao19 t339.length co19] 37 (0, 0)) u16_ hb); have n5_ := Aside0.mk (below_step u4_ hb); have n6_ := Aside0.mk (hbox); have n7_ := Aside0.mk ((by rw [hg]; exact (below_size u4_) : w.heap.size ≤ gb352)); have n8_ := Aside0.mk ((by rw [hg]; exact (below_size u4_) : w.heap.size ≤ gb352)); have n9_ := Aside0.mk ((by rw [hg]; exact Nat.ne_of_lt (blk_lt (g := gb336) (o := .cells #[.string t332, .slice Ao13 t333.length co13] 37 (0, 0)) u13_) : gb336 ≠ gb352)); have n10_ := Aside0.mk ((by rw [hg]; exact Nat.ne_of_gt (blk_lt (g := gb336) (o := .cells #[.string t332, .slice Ao13 t333.length co13] 37 (0, 0)) u13_) : gb352 ≠ gb336)); have n11_ := Aside0.mk ((by rw [hg]; exact Nat.ne_of_lt (blk_lt (g := gb343) (o := .cells #[.string t338, .slice Ao19 t339.length co19] 37 (0, 0)) u16_) : gb343 ≠ gb352)); have n12_ := Aside0.mk ((by rw [hg]; exact Nat.ne_of_gt (blk_lt (g := gb343) (o := .cells #[.string t338, .slice Ao19 t339.length co19] 37 (0, 0)) u16_) : gb352 ≠ gb343)); clear HO_337001; clear HO_344001; clear HO350; clear BK336; clear BK343; clear HB; have HO_337001 := n0_; have HO_344001 := n1_; have HO350 := n2_; have BK336 := n3_; have BK343 := n4_; have HB := n5_; have BK352 := n6_; have GW352 := n7_; have GE352 := n8_; have NB336_352 := n9_; have NB352_336 := n10_; have NB343_352 := n11_; have NB352_343 := n12_; clear n0_ n1_ n2_ n3_ n4_ n5_ n6_ n7_ n8_ n9_ n10_ n11_ n12_; clear hb hbox hg; have hnb70 := NB352_336.out; have hnc70 := NB336_352.out; have hnb71 := NB352_343.out; have hnc71 := NB343_352.out; have hcz72_0 : w69.cell? ⟨gb352, 0, none⟩ = some (.string (⟨#[]⟩ : ByteArray)) := (blk_cell BK352.out 0).trans rfl; have hcz72_1 : w69.cell? ⟨gb352, 1, none⟩ = some (.slice none 0 0) := (blk_cell BK352.out 1).trans rfl; have hfz72_0 := blk_frozen BK352.out 0; have hfz72_1 := blk_frozen BK352.out 1; obtain ⟨Ao73, co73, eo73⟩ := Kd.R_slice HO350.out; subst eo73) | ((with_reducible refine gate_callee (f := 17) rfl ?_); refine goesL_ (some 59) rfl rfl Tryd.func17 u17_ rfl #[.string t346] rfl u0_ ?_; (with_reducible refine (spec_DocGet.calls kj8 t346 t353 t354 t357 _ A43.out).mono ?_); rintro e w74 ⟨v355, rfl, ho0, hb⟩; refine ⟨_, rfl, ?_⟩; have n0_ := Aside0.mk (Kd.R_elder' u125_ (Kd.R_base ho0) hb); have n1_ := Aside0.mk (Kd.R_elder' u126_ (Kd.R_base ho0) hb); have n2_ := Aside0.mk (Kd.R_elder' u134_ (Kd.R_base ho0) hb); have n3_ := Aside0.mk (Kd.R_lower (Kd.R_new' (Kd.R_new' (Kd.R_new' ho0 (Kd.R_lt u125_)) (Kd.R_lt u126_)) (Kd.R_lt u134_)) (below_size u15_)); have n4_ := Aside0.mk (blk_below (g := gb336) (o := .cells #[.string t332, .slice Ao13 t333.length co13] 37 (0, 0)) u54_ hb); have n5_ := Aside0.mk (blk_below (g := gb343) (o := .cells #[.string t338, .slice Ao19 t339.length co19] 37 (0, 0)) u55_ hb); have n6_ := Aside0.mk (blk_below (g := gb352) (o := .cells #[.string t347, .slice Ao73 t348.length co73] 37 (0, 0)) u43_ hb); have n7_ := Aside0.mk (below_step u15_ hb); clear HO_337001; clear HO_344001; clear HO350; clear BK336; clear BK343; clear BK352; clear HB; have HO_337001 := n0_; have HO_344001 := n1_; have HO350 := n2_; have HO356 := n3_; have BK336 := n4_; have BK343 := n5_; have BK352 := n6_; have HB := n7_; clear n0_ n1_ n2_ n3_ n4_ n5_ n6_ n7_; (try clear hb); (try clear hb2); (try clear hk); (try clear hi); (try clear ho0)) | ((with_reducible refine gate_dst (N := 12) rfl ?_); (try (refine gate_guard u67_ ?_; dsimp only)); refine box_event ?hg (N := 12) ?hd (cs := #[.string (⟨#[]⟩ : ByteArray), .slice none 0 0]) (t := 37) ?hr ?_; (case hd => rfl); (case hg => rfl); (case hr => first | (go_simp; done) | (go_simp; rfl)); intro gb358 hg w75 hbox hb; have n0_ := Aside0.mk (Kd.R_below u31_ hb); have n1_ := Aside0.mk (Kd.R_below u32_ hb); have n2_ := Aside0.mk (Kd.R_below u70_ hb); have n3_ := Aside0.mk (Kd.R_below u97_ hb); have n4_ := Aside0.mk (blk_below (g := gb336) (o := .cells #[.string t332, .slice Ao13 t333.length co13] 37 (0, 0)) u13_ hb); have n5_ := Aside0.mk (blk_below (g := gb343) (o := .cells #[.string t338, .slice Ao19 t339.length co19] 37 (0, 0)) u16_ hb); have n6_ := Aside0.mk (blk_below (g := gb352) (o := .cells #[.string t347, .slice Ao73 t348.length co73] 37 (0, 0)) u47_ hb); have n7_ := Aside0.mk (below_step u15_ hb); have n8_ := Aside0.mk (hbox); have n9_ := Aside0.mk ((by rw [hg]; exact (below_size u15_) : w.heap.size ≤ gb358)); have n10_ := Aside0.mk ((by rw [hg]; exact (below_size u15_) : w.heap.size ≤ gb358)); have n11_ := Aside0.mk ((by rw [hg]; exact Nat.ne_of_lt (blk_lt (g := gb336) (o := .cells #[.string t332, .slice Ao13 t333.length co13] 37 (0, 0)) u13_) : gb336 ≠ gb358)); have n12_ := Aside0.mk ((by rw [hg]; exact Nat.ne_of_gt (blk_lt (g := gb336) (o := .cells #[.string t332, .slice Ao13 t333.length co13] 37 (0, 0)) u13_) : gb358 ≠ gb336)); have n13_ := Aside0.mk ((by rw [hg]; exact Nat.ne_of_lt (blk_lt (g := gb343) (o := .cells #[.string t338, .slice Ao19 t339.length co19] 37 (0, 0)) u16_) : gb343 ≠ gb358)); have n14_ := Aside0.mk ((by rw [hg]; exact Nat.ne_of_gt (blk_lt (g := gb343) (o := .cells #[.string t338, .slice Ao19 t339.length co19] 37 (0, 0)) u16_) : gb358 ≠ gb343)); have n15_ := Aside0.mk ((by rw [hg]; exact Nat.ne_of_lt (blk_lt (g := gb352) (o := .cells #[.string t347, .slice Ao73 t348.length co73] 37 (0, 0)) u47_) : gb352 ≠ gb358)); have n16_ := Aside0.mk ((by rw [hg]; exact Nat.ne_of_gt (blk_lt (g := gb352) (o := .cells #[.string t347, .slice Ao73 t348.length co73] 37 (0, 0)) u47_) : gb358 ≠ gb352)); clear HO_337001; clear HO_344001; clear HO350; clear HO356; clear BK336; clear BK343; clear BK352; clear HB; have HO_337001 := n0_; have HO_344001 := n1_; have HO350 := n2_; have HO356 := n3_; have BK336 := n4_; have BK343 := n5_; have BK352 := n6_; have HB := n7_; have BK358 := n8_; have GW358 := n9_; have GE358 := n10_; have NB336_358 := n11_; have NB358_336 := n12_; have NB343_358 := n13_; have NB358_343 := n14_; have NB352_358 := n15_; have NB358_352 := n16_; clear n0_ n1_ n2_ n3_ n4_ n5_ n6_ n7_ n8_ n9_ n10_ n11_ n12_ n13_ n14_ n15_ n16_; clear hb hbox hg; have hnb76 := NB358_336.out; have hnc76 := NB336_358.out; have hnb77 := NB358_343.out; have hnc77 := NB343_358.out; have hnb78 := NB358_352.out; have hnc78 := NB352_358.out; have hcz79_0 : w75.cell? ⟨gb358, 0, none⟩ = some (.string (⟨#[]⟩ : ByteArray)) := (blk_cell BK358.out 0).trans rfl; have hcz79_1 : w75.cell? ⟨gb358, 1, none⟩ = some (.slice none 0 0) := (blk_cell BK358.out 1).trans rfl; have hfz79_0 := blk_frozen BK358.out 0; have hfz79_1 := blk_frozen BK358.out 1; obtain ⟨Ao80, co80, eo80⟩ := Kd.R_slice HO356.out; subst eo80; have hcz81_0 : w75.cell? ⟨gb352, 0, none⟩ = some (.string t347) := (blk_cell BK352.out 0).trans rfl; have hcz81_1 : w75.cell? ⟨gb352, 1, none⟩ = some (.slice Ao73 t348.length co73) := (blk_cell BK352.out 1).trans rfl; have hfz81_0 := blk_frozen BK352.out 0; have hfz81_1 := blk_frozen BK352.out 1) | (go_at_call 29; (with_reducible refine (laws_sdDoc.calls kj8 t347 _ _ t348 t353 _ _ t354 true _ ?side1 ?side2 ?side3 ?side4 A45.out).mono ?_); (case side1 => refine (Kd.R_reads' (e := 74) (base := w.heap.size) (ok := fun k_ => (((True ∧ some k_ ≠ (.slice Ao13 t333.length co13 : Value).ownBlock) ∧ some k_ ≠ (.slice Ao19 t339.length co19 : Value).ownBlock) ∧ some k_ ≠ (.slice Ao80 t354.length co80 : Value).ownBlock)) (n := t348.length) (c := co73) ?_).2.2; exact u135_); (case side2 => exact (Kd.R_reads' HO350.out).2.1); (case side3 => refine (Kd.R_reads' (e := 74) (base := w.heap.size) (ok := fun k_ => (((True ∧ some k_ ≠ (.slice Ao13 t333.length co13 : Value).ownBlock) ∧ some k_ ≠ (.slice Ao19 t339.length co19 : Value).ownBlock) ∧ some k_ ≠ (.slice Ao73 t348.length co73 : Value).ownBlock)) (n := t354.length) (c := co80) ?_).2.2; exact u136_); (case side4 => exact (Kd.R_reads' HO356.out).2.1); rintro e w82 ⟨rfl, hb⟩; have n0_ := Aside0.mk (Kd.R_below (by (with_reducible repeat (first | apply Kd.R_alloc | apply Kd.R_drewN | apply Kd.R_drew)); exact (Kd.R_mono (Kd.R_far (p := ⟨gb358, 1, none⟩) (Kd.R_far (p := ⟨gb358, 0, none⟩) (Kd.R_types HO_337001.out BK358.out u39_) (fun _ hk => hk.2) (.string t353)) (fun _ hk => hk.2) (.slice Ao80 t354.length co80)) (fun _ h_ => h_.1))) hb); have n1_ := Aside0.mk (Kd.R_below (by (with_reducible repeat (first | apply Kd.R_alloc | apply Kd.R_drewN | apply Kd.R_drew)); exact (Kd.R_mono (Kd.R_far (p := ⟨gb358, 1, none⟩) (Kd.R_far (p := ⟨gb358, 0, none⟩) (Kd.R_types HO_344001.out BK358.out u39_) (fun _ hk => hk.2) (.string t353)) (fun _ hk => hk.2) (.slice Ao80 t354.length co80)) (fun _ h_ => h_.1))) hb); have n2_ := Aside0.mk (Kd.R_below u135_ hb); have n3_ := Aside0.mk (Kd.R_below u136_ hb); have n4_ := Aside0.mk (blk_below (g := gb336) (o := .cells #[.string t332, .slice Ao13 t333.length co13] 37 (0, 0)) u77_ hb); have n5_ := Aside0.mk (blk_below (g := gb343) (o := .cells #[.string t338, .slice Ao19 t339.length co19] 37 (0, 0)) u78_ hb); have n6_ := Aside0.mk (blk_below (g := gb352) (o := .cells #[.string t347, .slice Ao73 t348.length co73] 37 (0, 0)) u79_ hb); have n7_ := Aside0.mk (blk_below (g := gb358) (o := .cells #[.string t353, .slice Ao80 t354.length co80] 37 (0, 0)) u64_ hb); have n8_ := Aside0.mk (below_step u38_ hb); clear HO_337001; clear HO_344001; clear HO350; clear HO356; clear BK336; clear BK343; clear BK352; clear BK358; clear HB; have HO_337001 := n0_; have HO_344001 := n1_; have HO350 := n2_; have HO356 := n3_; have BK336 := n4_; have BK343 := n5_; have BK352 := n6_; have BK358 := n7_; have HB := n8_; clear n0_ n1_ n2_ n3_ n4_ n5_ n6_ n7_ n8_; (try clear hb); (try clear hb2); (try clear hk); (try clear hi)))
          go_ret
          exact ⟨u7_, u38_⟩
        ·replace c46 := Bool.eq_false_iff.mpr c46
         subst c46
         have H1 : (some false) = some r := by rw [if_neg (show ¬ (false = true) by decide)] at H; exact H
         clear H
         have H := H1
         clear H1
         obtain rfl := Option.some.inj H
         go_wp2_with (first | ((with_reducible refine gate_callee (f := 30) rfl ?_); refine goesL_ (some 51) rfl rfl Tryd.func30 u17_ rfl #[.slice A1 l1.length c1] rfl u0_ ?_; (with_reducible refine (spec_DrawDocGet.calls kj8 _ _ l1 t346 _ ?side1 ?side2 A41.out).mono ?_); (case side1 => repeat (first | exact (Kd.C_below HR1.out HB.out) | (with_reducible refine Kd.C_alloc ?_ _) | (with_reducible refine Kd.C_drewN ?_ _) | (with_reducible refine Kd.C_drew ?_))); (case side2 => exact HC1.out); rintro e w83 ⟨rfl, hb⟩; refine ⟨_, rfl, ?_⟩; have n0_ := Aside0.mk (Kd.R_below u31_ hb); have n1_ := Aside0.mk (Kd.R_below u32_ hb); have n2_ := Aside0.mk (blk_below (g := gb336) (o := .cells #[.string t332, .slice Ao13 t333.length co13] 37 (0, 0)) u13_ hb); have n3_ := Aside0.mk (blk_below (g := gb343) (o := .cells #[.string t338, .slice Ao19 t339.length co19] 37 (0, 0)) u16_ hb); have n4_ := Aside0.mk (below_step u4_ hb); clear HO_337001; clear HO_344001; clear BK336; clear BK343; clear HB; have HO_337001 := n0_; have HO_344001 := n1_; have BK336 := n2_; have BK343 := n3_; have HB := n4_; clear n0_ n1_ n2_ n3_ n4_; (try clear hb); (try clear hb2); (try clear hk); (try clear hi)) | ((with_reducible refine gate_callee (f := 18) rfl ?_); refine goesL_ (some 54) rfl rfl Tryd.func18 u17_ rfl #[.string t346] rfl u0_ ?_; (with_reducible refine (impl_DocGet.calls kj8 t346 t347 t348 t351 _ ?side1 A42.out).mono ?_); (case side1 => exact StopsIn.below HG_.out u4_); rintro e w84 ⟨v349, rfl, ho0, hb⟩; refine ⟨_, rfl, ?_⟩; have n0_ := Aside0.mk (Kd.R_elder' u31_ (Kd.R_base ho0) hb); have n1_ := Aside0.mk (Kd.R_elder' u32_ (Kd.R_base ho0) hb); have n2_ := Aside0.mk (Kd.R_lower (Kd.R_new' (Kd.R_new' ho0 (Kd.R_lt u31_)) (Kd.R_lt u32_)) (below_size u4_)); have n3_ := Aside0.mk (blk_below (g := gb336) (o := .cells #[.string t332, .slice Ao13 t333.length co13] 37 (0, 0)) u13_ hb); have n4_ := Aside0.mk (blk_below (g := gb343) (o := .cells #[.string t338, .slice Ao19 t339.length co19] 37 (0, 0)) u16_ hb); have n5_ := Aside0.mk (below_step u4_ hb); clear HO_337001; clear HO_344001; clear BK336; clear BK343; clear HB; have HO_337001 := n0_; have HO_344001 := n1_; have HO350 := n2_; have BK336 := n3_; have BK343 := n4_; have HB := n5_; clear n0_ n1_ n2_ n3_ n4_ n5_; (try clear hb); (try clear hb2); (try clear hk); (try clear hi); (try clear ho0)) | ((with_reducible refine gate_dst (N := 10) rfl ?_); (try (refine gate_guard u67_ ?_; dsimp only)); refine box_event ?hg (N := 10) ?hd (cs := #[.string (⟨#[]⟩ : ByteArray), .slice none 0 0]) (t := 37) ?hr ?_; (case hd => rfl); (case hg => rfl); (case hr => first | (go_simp; done) | (go_simp; rfl)); intro gb352 hg w85 hbox hb; have n0_ := Aside0.mk (Kd.R_below u31_ hb); have n1_ := Aside0.mk (Kd.R_below u32_ hb); have n2_ := Aside0.mk (Kd.R_below u70_ hb); have n3_ := Aside0.mk (blk_below (g := gb336) (o := .cells #[.string t332, .slice Ao13 t333.length co13] 37 (0, 0)) u13_ hb); have n4_ := Aside0.mk (blk_below (g := gb343) (o := .cells #[.string t338, .slice Ao19 t339.length co19] 37 (0, 0)) u16_ hb); have n5_ := Aside0.mk (below_step u4_ hb); have n6_ := Aside0.mk (hbox); have n7_ := Aside0.mk ((by rw [hg]; exact (below_size u4_) : w.heap.size ≤ gb352)); have n8_ := Aside0.mk ((by rw [hg]; exact (below_size u4_) : w.heap.size ≤ gb352)); have n9_ := Aside0.mk ((by rw [hg]; exact Nat.ne_of_lt (blk_lt (g := gb336) (o := .cells #[.string t332, .slice Ao13 t333.length co13] 37 (0, 0)) u13_) : gb336 ≠ gb352)); have n10_ := Aside0.mk ((by rw [hg]; exact Nat.ne_of_gt (blk_lt (g := gb336) (o := .cells #[.string t332, .slice Ao13 t333.length co13] 37 (0, 0)) u13_) : gb352 ≠ gb336)); have n11_ := Aside0.mk ((by rw [hg]; exact Nat.ne_of_lt (blk_lt (g := gb343) (o := .cells #[.string t338, .slice Ao19 t339.length co19] 37 (0, 0)) u16_) : gb343 ≠ gb352)); have n12_ := Aside0.mk ((by rw [hg]; exact Nat.ne_of_gt (blk_lt (g := gb343) (o := .cells #[.string t338, .slice Ao19 t339.length co19] 37 (0, 0)) u16_) : gb352 ≠ gb343)); clear HO_337001; clear HO_344001; clear HO350; clear BK336; clear BK343; clear HB; have HO_337001 := n0_; have HO_344001 := n1_; have HO350 := n2_; have BK336 := n3_; have BK343 := n4_; have HB := n5_; have BK352 := n6_; have GW352 := n7_; have GE352 := n8_; have NB336_352 := n9_; have NB352_336 := n10_; have NB343_352 := n11_; have NB352_343 := n12_; clear n0_ n1_ n2_ n3_ n4_ n5_ n6_ n7_ n8_ n9_ n10_ n11_ n12_; clear hb hbox hg; have hnb86 := NB352_336.out; have hnc86 := NB336_352.out; have hnb87 := NB352_343.out; have hnc87 := NB343_352.out; have hcz88_0 : w85.cell? ⟨gb352, 0, none⟩ = some (.string (⟨#[]⟩ : ByteArray)) := (blk_cell BK352.out 0).trans rfl; have hcz88_1 : w85.cell? ⟨gb352, 1, none⟩ = some (.slice none 0 0) := (blk_cell BK352.out 1).trans rfl; have hfz88_0 := blk_frozen BK352.out 0; have hfz88_1 := blk_frozen BK352.out 1; obtain ⟨Ao89, co89, eo89⟩ := Kd.R_slice HO350.out; subst eo89) | ((with_reducible refine gate_callee (f := 17) rfl ?_); refine goesL_ (some 59) rfl rfl Tryd.func17 u17_ rfl #[.string t346] rfl u0_ ?_; (with_reducible refine (spec_DocGet.calls kj8 t346 t353 t354 t357 _ A43.out).mono ?_); rintro e w90 ⟨v355, rfl, ho0, hb⟩; refine ⟨_, rfl, ?_⟩; have n0_ := Aside0.mk (Kd.R_elder' u127_ (Kd.R_base ho0) hb); have n1_ := Aside0.mk (Kd.R_elder' u128_ (Kd.R_base ho0) hb); have n2_ := Aside0.mk (Kd.R_elder' u137_ (Kd.R_base ho0) hb); have n3_ := Aside0.mk (Kd.R_lower (Kd.R_new' (Kd.R_new' (Kd.R_new' ho0 (Kd.R_lt u127_)) (Kd.R_lt u128_)) (Kd.R_lt u137_)) (below_size u15_)); have n4_ := Aside0.mk (blk_below (g := gb336) (o := .cells #[.string t332, .slice Ao13 t333.length co13] 37 (0, 0)) u54_ hb); have n5_ := Aside0.mk (blk_below (g := gb343) (o := .cells #[.string t338, .slice Ao19 t339.length co19] 37 (0, 0)) u55_ hb); have n6_ := Aside0.mk (blk_below (g := gb352) (o := .cells #[.string t347, .slice Ao89 t348.length co89] 37 (0, 0)) u43_ hb); have n7_ := Aside0.mk (below_step u15_ hb); clear HO_337001; clear HO_344001; clear HO350; clear BK336; clear BK343; clear BK352; clear HB; have HO_337001 := n0_; have HO_344001 := n1_; have HO350 := n2_; have HO356 := n3_; have BK336 := n4_; have BK343 := n5_; have BK352 := n6_; have HB := n7_; clear n0_ n1_ n2_ n3_ n4_ n5_ n6_ n7_; (try clear hb); (try clear hb2); (try clear hk); (try clear hi); (try clear ho0)) | ((with_reducible refine gate_dst (N := 12) rfl ?_); (try (refine gate_guard u67_ ?_; dsimp only)); refine box_event ?hg (N := 12) ?hd (cs := #[.string (⟨#[]⟩ : ByteArray), .slice none 0 0]) (t := 37) ?hr ?_; (case hd => rfl); (case hg => rfl); (case hr => first | (go_simp; done) | (go_simp; rfl)); intro gb358 hg w91 hbox hb; have n0_ := Aside0.mk (Kd.R_below u31_ hb); have n1_ := Aside0.mk (Kd.R_below u32_ hb); have n2_ := Aside0.mk (Kd.R_below u70_ hb); have n3_ := Aside0.mk (Kd.R_below u97_ hb); have n4_ := Aside0.mk (blk_below (g := gb336) (o := .cells #[.string t332, .slice Ao13 t333.length co13] 37 (0, 0)) u13_ hb); have n5_ := Aside0.mk (blk_below (g := gb343) (o := .cells #[.string t338, .slice Ao19 t339.length co19] 37 (0, 0)) u16_ hb); have n6_ := Aside0.mk (blk_below (g := gb352) (o := .cells #[.string t347, .slice Ao89 t348.length co89] 37 (0, 0)) u47_ hb); have n7_ := Aside0.mk (below_step u15_ hb); have n8_ := Aside0.mk (hbox); have n9_ := Aside0.mk ((by rw [hg]; exact (below_size u15_) : w.heap.size ≤ gb358)); have n10_ := Aside0.mk ((by rw [hg]; exact (below_size u15_) : w.heap.size ≤ gb358)); have n11_ := Aside0.mk ((by rw [hg]; exact Nat.ne_of_lt (blk_lt (g := gb336) (o := .cells #[.string t332, .slice Ao13 t333.length co13] 37 (0, 0)) u13_) : gb336 ≠ gb358)); have n12_ := Aside0.mk ((by rw [hg]; exact Nat.ne_of_gt (blk_lt (g := gb336) (o := .cells #[.string t332, .slice Ao13 t333.length co13] 37 (0, 0)) u13_) : gb358 ≠ gb336)); have n13_ := Aside0.mk ((by rw [hg]; exact Nat.ne_of_lt (blk_lt (g := gb343) (o := .cells #[.string t338, .slice Ao19 t339.length co19] 37 (0, 0)) u16_) : gb343 ≠ gb358)); have n14_ := Aside0.mk ((by rw [hg]; exact Nat.ne_of_gt (blk_lt (g := gb343) (o := .cells #[.string t338, .slice Ao19 t339.length co19] 37 (0, 0)) u16_) : gb358 ≠ gb343)); have n15_ := Aside0.mk ((by rw [hg]; exact Nat.ne_of_lt (blk_lt (g := gb352) (o := .cells #[.string t347, .slice Ao89 t348.length co89] 37 (0, 0)) u47_) : gb352 ≠ gb358)); have n16_ := Aside0.mk ((by rw [hg]; exact Nat.ne_of_gt (blk_lt (g := gb352) (o := .cells #[.string t347, .slice Ao89 t348.length co89] 37 (0, 0)) u47_) : gb358 ≠ gb352)); clear HO_337001; clear HO_344001; clear HO350; clear HO356; clear BK336; clear BK343; clear BK352; clear HB; have HO_337001 := n0_; have HO_344001 := n1_; have HO350 := n2_; have HO356 := n3_; have BK336 := n4_; have BK343 := n5_; have BK352 := n6_; have HB := n7_; have BK358 := n8_; have GW358 := n9_; have GE358 := n10_; have NB336_358 := n11_; have NB358_336 := n12_; have NB343_358 := n13_; have NB358_343 := n14_; have NB352_358 := n15_; have NB358_352 := n16_; clear n0_ n1_ n2_ n3_ n4_ n5_ n6_ n7_ n8_ n9_ n10_ n11_ n12_ n13_ n14_ n15_ n16_; clear hb hbox hg; have hnb92 := NB358_336.out; have hnc92 := NB336_358.out; have hnb93 := NB358_343.out; have hnc93 := NB343_358.out; have hnb94 := NB358_352.out; have hnc94 := NB352_358.out; have hcz95_0 : w91.cell? ⟨gb358, 0, none⟩ = some (.string (⟨#[]⟩ : ByteArray)) := (blk_cell BK358.out 0).trans rfl; have hcz95_1 : w91.cell? ⟨gb358, 1, none⟩ = some (.slice none 0 0) := (blk_cell BK358.out 1).trans rfl; have hfz95_0 := blk_frozen BK358.out 0; have hfz95_1 := blk_frozen BK358.out 1; obtain ⟨Ao96, co96, eo96⟩ := Kd.R_slice HO356.out; subst eo96; have hcz97_0 : w91.cell? ⟨gb352, 0, none⟩ = some (.string t347) := (blk_cell BK352.out 0).trans rfl; have hcz97_1 : w91.cell? ⟨gb352, 1, none⟩ = some (.slice Ao89 t348.length co89) := (blk_cell BK352.out 1).trans rfl; have hfz97_0 := blk_frozen BK352.out 0; have hfz97_1 := blk_frozen BK352.out 1) | (go_at_call 29; (with_reducible refine (laws_sdDoc.calls kj8 t347 _ _ t348 t353 _ _ t354 false _ ?side1 ?side2 ?side3 ?side4 A45.out).mono ?_); (case side1 => refine (Kd.R_reads' (e := 74) (base := w.heap.size) (ok := fun k_ => (((True ∧ some k_ ≠ (.slice Ao13 t333.length co13 : Value).ownBlock) ∧ some k_ ≠ (.slice Ao19 t339.length co19 : Value).ownBlock) ∧ some k_ ≠ (.slice Ao96 t354.length co96 : Value).ownBlock)) (n := t348.length) (c := co89) ?_).2.2; exact u138_); (case side2 => exact (Kd.R_reads' HO350.out).2.1); (case side3 => refine (Kd.R_reads' (e := 74) (base := w.heap.size) (ok := fun k_ => (((True ∧ some k_ ≠ (.slice Ao13 t333.length co13 : Value).ownBlock) ∧ some k_ ≠ (.slice Ao19 t339.length co19 : Value).ownBlock) ∧ some k_ ≠ (.slice Ao89 t348.length co89 : Value).ownBlock)) (n := t354.length) (c := co96) ?_).2.2; exact u139_); (case side4 => exact (Kd.R_reads' HO356.out).2.1); rintro e w98 ⟨rfl, hb⟩; have n0_ := Aside0.mk (Kd.R_below (by (with_reducible repeat (first | apply Kd.R_alloc | apply Kd.R_drewN | apply Kd.R_drew)); exact (Kd.R_mono (Kd.R_far (p := ⟨gb358, 1, none⟩) (Kd.R_far (p := ⟨gb358, 0, none⟩) (Kd.R_types HO_337001.out BK358.out u39_) (fun _ hk => hk.2) (.string t353)) (fun _ hk => hk.2) (.slice Ao96 t354.length co96)) (fun _ h_ => h_.1))) hb); have n1_ := Aside0.mk (Kd.R_below (by (with_reducible repeat (first | apply Kd.R_alloc | apply Kd.R_drewN | apply Kd.R_drew)); exact (Kd.R_mono (Kd.R_far (p := ⟨gb358, 1, none⟩) (Kd.R_far (p := ⟨gb358, 0, none⟩) (Kd.R_types HO_344001.out BK358.out u39_) (fun _ hk => hk.2) (.string t353)) (fun _ hk => hk.2) (.slice Ao96 t354.length co96)) (fun _ h_ => h_.1))) hb); have n2_ := Aside0.mk (Kd.R_below u138_ hb); have n3_ := Aside0.mk (Kd.R_below u139_ hb); have n4_ := Aside0.mk (blk_below (g := gb336) (o := .cells #[.string t332, .slice Ao13 t333.length co13] 37 (0, 0)) u77_ hb); have n5_ := Aside0.mk (blk_below (g := gb343) (o := .cells #[.string t338, .slice Ao19 t339.length co19] 37 (0, 0)) u78_ hb); have n6_ := Aside0.mk (blk_below (g := gb352) (o := .cells #[.string t347, .slice Ao89 t348.length co89] 37 (0, 0)) u79_ hb); have n7_ := Aside0.mk (blk_below (g := gb358) (o := .cells #[.string t353, .slice Ao96 t354.length co96] 37 (0, 0)) u64_ hb); have n8_ := Aside0.mk (below_step u38_ hb); clear HO_337001; clear HO_344001; clear HO350; clear HO356; clear BK336; clear BK343; clear BK352; clear BK358; clear HB; have HO_337001 := n0_; have HO_344001 := n1_; have HO350 := n2_; have HO356 := n3_; have BK336 := n4_; have BK343 := n5_; have BK352 := n6_; have BK358 := n7_; have HB := n8_; clear n0_ n1_ n2_ n3_ n4_ n5_ n6_ n7_ n8_; (try clear hb); (try clear hb2); (try clear hk); (try clear hi)))
         go_ret
         exact ⟨u7_, u38_⟩
       ·rw [if_neg c44] at H
        have c44b0 : (t351 == t357) = false := by simpa using c44
        (try (have c44b1 : decide (t351 = t357) = false := by simpa using c44))
        (try (have c44b2 : (t351 == t357) = false := by simpa using c44))
        (try (have c44b3 : ¬ (t351 = t357) := by simpa using c44))
        clear c44
        obtain rfl := Option.some.inj H
        go_wp2_with (first | ((with_reducible refine gate_callee (f := 30) rfl ?_); refine goesL_ (some 51) rfl rfl Tryd.func30 u17_ rfl #[.slice A1 l1.length c1] rfl u0_ ?_; (with_reducible refine (spec_DrawDocGet.calls kj8 _ _ l1 t346 _ ?side1 ?side2 A41.out).mono ?_); (case side1 => repeat (first | exact (Kd.C_below HR1.out HB.out) | (with_reducible refine Kd.C_alloc ?_ _) | (with_reducible refine Kd.C_drewN ?_ _) | (with_reducible refine Kd.C_drew ?_))); (case side2 => exact HC1.out); rintro e w99 ⟨rfl, hb⟩; refine ⟨_, rfl, ?_⟩; have n0_ := Aside0.mk (Kd.R_below u31_ hb); have n1_ := Aside0.mk (Kd.R_below u32_ hb); have n2_ := Aside0.mk (blk_below (g := gb336) (o := .cells #[.string t332, .slice Ao13 t333.length co13] 37 (0, 0)) u13_ hb); have n3_ := Aside0.mk (blk_below (g := gb343) (o := .cells #[.string t338, .slice Ao19 t339.length co19] 37 (0, 0)) u16_ hb); have n4_ := Aside0.mk (below_step u4_ hb); clear HO_337001; clear HO_344001; clear BK336; clear BK343; clear HB; have HO_337001 := n0_; have HO_344001 := n1_; have BK336 := n2_; have BK343 := n3_; have HB := n4_; clear n0_ n1_ n2_ n3_ n4_; (try clear hb); (try clear hb2); (try clear hk); (try clear hi)) | ((with_reducible refine gate_callee (f := 18) rfl ?_); refine goesL_ (some 54) rfl rfl Tryd.func18 u17_ rfl #[.string t346] rfl u0_ ?_; (with_reducible refine (impl_DocGet.calls kj8 t346 t347 t348 t351 _ ?side1 A42.out).mono ?_); (case side1 => exact StopsIn.below HG_.out u4_); rintro e w100 ⟨v349, rfl, ho0, hb⟩; refine ⟨_, rfl, ?_⟩; have n0_ := Aside0.mk (Kd.R_elder' u31_ (Kd.R_base ho0) hb); have n1_ := Aside0.mk (Kd.R_elder' u32_ (Kd.R_base ho0) hb); have n2_ := Aside0.mk (Kd.R_lower (Kd.R_new' (Kd.R_new' ho0 (Kd.R_lt u31_)) (Kd.R_lt u32_)) (below_size u4_)); have n3_ := Aside0.mk (blk_below (g := gb336) (o := .cells #[.string t332, .slice Ao13 t333.length co13] 37 (0, 0)) u13_ hb); have n4_ := Aside0.mk (blk_below (g := gb343) (o := .cells #[.string t338, .slice Ao19 t339.length co19] 37 (0, 0)) u16_ hb); have n5_ := Aside0.mk (below_step u4_ hb); clear HO_337001; clear HO_344001; clear BK336; clear BK343; clear HB; have HO_337001 := n0_; have HO_344001 := n1_; have HO350 := n2_; have BK336 := n3_; have BK343 := n4_; have HB := n5_; clear n0_ n1_ n2_ n3_ n4_ n5_; (try clear hb); (try clear hb2); (try clear hk); (try clear hi); (try clear ho0)) | ((with_reducible refine gate_dst (N := 10) rfl ?_); (try (refine gate_guard u67_ ?_; dsimp only)); refine box_event ?hg (N := 10) ?hd (cs := #[.string (⟨#[]⟩ : ByteArray), .slice none 0 0]) (t := 37) ?hr ?_; (case hd => rfl); (case hg => rfl); (case hr => first | (go_simp; done) | (go_simp; rfl)); intro gb352 hg w101 hbox hb; have n0_ := Aside0.mk (Kd.R_below u31_ hb); have n1_ := Aside0.mk (Kd.R_below u32_ hb); have n2_ := Aside0.mk (Kd.R_below u70_ hb); have n3_ := Aside0.mk (blk_below (g := gb336) (o := .cells #[.string t332, .slice Ao13 t333.length co13] 37 (0, 0)) u13_ hb); have n4_ := Aside0.mk (blk_below (g := gb343) (o := .cells #[.string t338, .slice Ao19 t339.length co19] 37 (0, 0)) u16_ hb); have n5_ := Aside0.mk (below_step u4_ hb); have n6_ := Aside0.mk (hbox); have n7_ := Aside0.mk ((by rw [hg]; exact (below_size u4_) : w.heap.size ≤ gb352)); have n8_ := Aside0.mk ((by rw [hg]; exact (below_size u4_) : w.heap.size ≤ gb352)); have n9_ := Aside0.mk ((by rw [hg]; exact Nat.ne_of_lt (blk_lt (g := gb336) (o := .cells #[.string t332, .slice Ao13 t333.length co13] 37 (0, 0)) u13_) : gb336 ≠ gb352)); have n10_ := Aside0.mk ((by rw [hg]; exact Nat.ne_of_gt (blk_lt (g := gb336) (o := .cells #[.string t332, .slice Ao13 t333.length co13] 37 (0, 0)) u13_) : gb352 ≠ gb336)); have n11_ := Aside0.mk ((by rw [hg]; exact Nat.ne_of_lt (blk_lt (g := gb343) (o := .cells #[.string t338, .slice Ao19 t339.length co19] 37 (0, 0)) u16_) : gb343 ≠ gb352)); have n12_ := Aside0.mk ((by rw [hg]; exact Nat.ne_of_gt (blk_lt (g := gb343) (o := .cells #[.string t338, .slice Ao19 t339.length co19] 37 (0, 0)) u16_) : gb352 ≠ gb343)); clear HO_337001; clear HO_344001; clear HO350; clear BK336; clear BK343; clear HB; have HO_337001 := n0_; have HO_344001 := n1_; have HO350 := n2_; have BK336 := n3_; have BK343 := n4_; have HB := n5_; have BK352 := n6_; have GW352 := n7_; have GE352 := n8_; have NB336_352 := n9_; have NB352_336 := n10_; have NB343_352 := n11_; have NB352_343 := n12_; clear n0_ n1_ n2_ n3_ n4_ n5_ n6_ n7_ n8_ n9_ n10_ n11_ n12_; clear hb hbox hg; have hnb102 := NB352_336.out; have hnc102 := NB336_352.out; have hnb103 := NB352_343.out; have hnc103 := NB343_352.out; have hcz104_0 : w101.cell? ⟨gb352, 0, none⟩ = some (.string (⟨#[]⟩ : ByteArray)) := (blk_cell BK352.out 0).trans rfl; have hcz104_1 : w101.cell? ⟨gb352, 1, none⟩ = some (.slice none 0 0) := (blk_cell BK352.out 1).trans rfl; have hfz104_0 := blk_frozen BK352.out 0; have hfz104_1 := blk_frozen BK352.out 1; obtain ⟨Ao105, co105, eo105⟩ := Kd.R_slice HO350.out; subst eo105) | ((with_reducible refine gate_callee (f := 17) rfl ?_); refine goesL_ (some 59) rfl rfl Tryd.func17 u17_ rfl #[.string t346] rfl u0_ ?_; (with_reducible refine (spec_DocGet.calls kj8 t346 t353 t354 t357 _ A43.out).mono ?_); rintro e w106 ⟨v355, rfl, ho0, hb⟩; refine ⟨_, rfl, ?_⟩; have n0_ := Aside0.mk (Kd.R_elder' u121_ (Kd.R_base ho0) hb); have n1_ := Aside0.mk (Kd.R_elder' u122_ (Kd.R_base ho0) hb); have n2_ := Aside0.mk (Kd.R_elder' u129_ (Kd.R_base ho0) hb); have n3_ := Aside0.mk (Kd.R_lower (Kd.R_new' (Kd.R_new' (Kd.R_new' ho0 (Kd.R_lt u121_)) (Kd.R_lt u122_)) (Kd.R_lt u129_)) (below_size u15_)); have n4_ := Aside0.mk (blk_below (g := gb336) (o := .cells #[.string t332, .slice Ao13 t333.length co13] 37 (0, 0)) u54_ hb); have n5_ := Aside0.mk (blk_below (g := gb343) (o := .cells #[.string t338, .slice Ao19 t339.length co19] 37 (0, 0)) u55_ hb); have n6_ := Aside0.mk (blk_below (g := gb352) (o := .cells #[.string t347, .slice Ao105 t348.length co105] 37 (0, 0)) u43_ hb); have n7_ := Aside0.mk (below_step u15_ hb); clear HO_337001; clear HO_344001; clear HO350; clear BK336; clear BK343; clear BK352; clear HB; have HO_337001 := n0_; have HO_344001 := n1_; have HO350 := n2_; have HO356 := n3_; have BK336 := n4_; have BK343 := n5_; have BK352 := n6_; have HB := n7_; clear n0_ n1_ n2_ n3_ n4_ n5_ n6_ n7_; (try clear hb); (try clear hb2); (try clear hk); (try clear hi); (try clear ho0)) | ((with_reducible refine gate_dst (N := 12) rfl ?_); (try (refine gate_guard u67_ ?_; dsimp only)); refine box_event ?hg (N := 12) ?hd (cs := #[.string (⟨#[]⟩ : ByteArray), .slice none 0 0]) (t := 37) ?hr ?_; (case hd => rfl); (case hg => rfl); (case hr => first | (go_simp; done) | (go_simp; rfl)); intro gb358 hg w107 hbox hb; have n0_ := Aside0.mk (Kd.R_below u31_ hb); have n1_ := Aside0.mk (Kd.R_below u32_ hb); have n2_ := Aside0.mk (Kd.R_below u70_ hb); have n3_ := Aside0.mk (Kd.R_below u97_ hb); have n4_ := Aside0.mk (blk_below (g := gb336) (o := .cells #[.string t332, .slice Ao13 t333.length co13] 37 (0, 0)) u13_ hb); have n5_ := Aside0.mk (blk_below (g := gb343) (o := .cells #[.string t338, .slice Ao19 t339.length co19] 37 (0, 0)) u16_ hb); have n6_ := Aside0.mk (blk_below (g := gb352) (o := .cells #[.string t347, .slice Ao105 t348.length co105] 37 (0, 0)) u47_ hb); have n7_ := Aside0.mk (below_step u15_ hb); have n8_ := Aside0.mk (hbox); have n9_ := Aside0.mk ((by rw [hg]; exact (below_size u15_) : w.heap.size ≤ gb358)); have n10_ := Aside0.mk ((by rw [hg]; exact (below_size u15_) : w.heap.size ≤ gb358)); have n11_ := Aside0.mk ((by rw [hg]; exact Nat.ne_of_lt (blk_lt (g := gb336) (o := .cells #[.string t332, .slice Ao13 t333.length co13] 37 (0, 0)) u13_) : gb336 ≠ gb358)); have n12_ := Aside0.mk ((by rw [hg]; exact Nat.ne_of_gt (blk_lt (g := gb336) (o := .cells #[.string t332, .slice Ao13 t333.length co13] 37 (0, 0)) u13_) : gb358 ≠ gb336)); have n13_ := Aside0.mk ((by rw [hg]; exact Nat.ne_of_lt (blk_lt (g := gb343) (o := .cells #[.string t338, .slice Ao19 t339.length co19] 37 (0, 0)) u16_) : gb343 ≠ gb358)); have n14_ := Aside0.mk ((by rw [hg]; exact Nat.ne_of_gt (blk_lt (g := gb343) (o := .cells #[.string t338, .slice Ao19 t339.length co19] 37 (0, 0)) u16_) : gb358 ≠ gb343)); have n15_ := Aside0.mk ((by rw [hg]; exact Nat.ne_of_lt (blk_lt (g := gb352) (o := .cells #[.string t347, .slice Ao105 t348.length co105] 37 (0, 0)) u47_) : gb352 ≠ gb358)); have n16_ := Aside0.mk ((by rw [hg]; exact Nat.ne_of_gt (blk_lt (g := gb352) (o := .cells #[.string t347, .slice Ao105 t348.length co105] 37 (0, 0)) u47_) : gb358 ≠ gb352)); clear HO_337001; clear HO_344001; clear HO350; clear HO356; clear BK336; clear BK343; clear BK352; clear HB; have HO_337001 := n0_; have HO_344001 := n1_; have HO350 := n2_; have HO356 := n3_; have BK336 := n4_; have BK343 := n5_; have BK352 := n6_; have HB := n7_; have BK358 := n8_; have GW358 := n9_; have GE358 := n10_; have NB336_358 := n11_; have NB358_336 := n12_; have NB343_358 := n13_; have NB358_343 := n14_; have NB352_358 := n15_; have NB358_352 := n16_; clear n0_ n1_ n2_ n3_ n4_ n5_ n6_ n7_ n8_ n9_ n10_ n11_ n12_ n13_ n14_ n15_ n16_; clear hb hbox hg; have hnb108 := NB358_336.out; have hnc108 := NB336_358.out; have hnb109 := NB358_343.out; have hnc109 := NB343_358.out; have hnb110 := NB358_352.out; have hnc110 := NB352_358.out; have hcz111_0 : w107.cell? ⟨gb358, 0, none⟩ = some (.string (⟨#[]⟩ : ByteArray)) := (blk_cell BK358.out 0).trans rfl; have hcz111_1 : w107.cell? ⟨gb358, 1, none⟩ = some (.slice none 0 0) := (blk_cell BK358.out 1).trans rfl; have hfz111_0 := blk_frozen BK358.out 0; have hfz111_1 := blk_frozen BK358.out 1; obtain ⟨Ao112, co112, eo112⟩ := Kd.R_slice HO356.out; subst eo112))
        go_ret
        exact ⟨u7_, u38_⟩

end Go.Proofs.YtglcgkbecfmegaaDoor.PFnDoc
