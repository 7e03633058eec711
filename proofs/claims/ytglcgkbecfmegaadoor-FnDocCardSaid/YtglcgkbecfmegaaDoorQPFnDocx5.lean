/- Contracts of Go functions that the law FnDoc reaches: each is told as a plain Lean function, with the walk that shows it; no condition beyond what each states. Written by a program of this session round the kit's printer. -/
import Derived.Test.YtglcgkbecfmegaaDoorQPFnDocx0
import Derived.Test.YtglcgkbecfmegaaDoorQPFnDocx4
namespace Go.Proofs.YtglcgkbecfmegaaDoor.PFnDoc
open Go.RowKit Go.Proofs.YtglcgkbecfmegaaDoorW.PrintWords Go.Proofs.YtglcgkbecfmegaaDoorW.PrintLast Go.Proofs.YtglcgkbecfmegaaDoorW.PrintMore
attribute [local go_sem] run_str_geq run_str_leq max2_int min2_int max_two min_two max_three min_three max_four min_four   -- for this text's walks alone
set_option linter.unusedVariables false
set_option linter.unusedSimpArgs false

/-! ### impl_plain: function 103 -/
def impl_plain.l0 : Nat → ByteArray → Int → Int → Int → Option (Bool)
 | 0, _, _, _, _ => none
 | k + 1, x0, x1, x7, x8 => if x8 < x7 then (if 0 ≤ x8 then (if x8 < (x0.size : Int) then ((impl_within.f (wrap64 (bt x0 x8)) 32 126).bind fun t143 => (if t143 = true then (impl_plain.l0 k x0 x1 x7 (wrap64 (x8 + 1))) else (some false))) else (none)) else (none)) else (some (decide ((x0.size : Int) ≤ x1)))
def impl_plain.f (k : Nat) (a0 : ByteArray) (a1 : Int) : Option (Bool) := impl_plain.l0 k a0 a1 (a0.size : Int) 0
theorem impl_plain.mono_l : ∀ k, (∀ y0 y1 y2 y3, LeO (impl_plain.l0 k y0 y1 y2 y3) (impl_plain.l0 (k + 1) y0 y1 y2 y3))
 | 0 => fun _ _ _ _ r h => by simp [impl_plain.l0] at h
 | k + 1 => by
  have ih0 := impl_plain.mono_l k
  ·intro y0 y1 y2 y3
   unfold impl_plain.l0
   repeat' first
   | (with_reducible exact ih0 _ _ _ _)
   | (with_reducible exact LeO.refl _)
   | (with_reducible exact LeO.none _)
   | (with_reducible refine LeO.ite ?_ ?_)
   | (with_reducible refine LeO.bind ?_ (fun _ => ?_))
   | exact ih0 _ _ _ _
   | exact LeO.none _
   | refine LeO.ite ?_ ?_
   | refine LeO.bind ?_ (fun _ => ?_)
theorem impl_plain.mono : ∀ a0 a1 k, LeO (impl_plain.f k a0 a1) (impl_plain.f (k + 1) a0 a1) := by
 intro a0 a1 k
 have ih0 := impl_plain.mono_l k
 unfold impl_plain.f
 repeat' first
   | (with_reducible exact ih0 _ _ _ _)
   | (with_reducible exact LeO.refl _)
   | (with_reducible exact LeO.none _)
   | (with_reducible refine LeO.ite ?_ ?_)
   | (with_reducible refine LeO.bind ?_ (fun _ => ?_))
   | exact ih0 _ _ _ _
   | exact LeO.none _
   | refine LeO.ite ?_ ?_
   | refine LeO.bind ?_ (fun _ => ?_)
set_option maxHeartbeats 8000000 in
set_option maxRecDepth 100000 in
theorem impl_plain.calls (k : Nat) (a0 : ByteArray) (a1 : Int) (r : Bool) (w : World) (h : impl_plain.f k a0 a1 = some r) :
  Calls Tryd.prog 103 #[.string a0, .int .i64 a1] w fun e w' => e = .returned (.bool r) ∧ Drawn0 w w' := by
 have H : (impl_plain.l0 k a0 a1 (a0.size : Int) 0) = some r := h
 clear h
 have H' := Aside0.mk H
 clear H
 go_enter Tryd.func103, Tryd.ntmps103
 go_wp2
 go_loopg [8] k (fun kq v8 w' => ∃ (x8_1 : Int), v8 = .int .i64 x8_1 ∧ Aside0 (impl_plain.l0 kq a0 a1 (a0.size : Int) x8_1 = some r) ∧ Aside0 (kq ≤ k) ∧ Drawn0 w w')
 case atStart => exact ⟨(0), u22_, H', ⟨Nat.le_refl _⟩, u28_⟩
 case round =>
  clear H'
  try clear c1
  try clear p2
  obtain ⟨x8_1, rfl, HA, HK1, ⟨m1, rfl⟩⟩ := hrel
  cases gk with
  | zero => exact absurd HA.out (by simp [impl_plain.l0])
  | succ k1 =>
   have H := HA.out
   clear HA
   simp only [impl_plain.l0] at H
   by_cases c3 : x8_1 < (a0.size : Int)
   ·rw [if_pos c3] at H
    have c3b0 : decide (x8_1 < (a0.size : Int)) = true := decide_eq_true c3
    clear c3
    by_cases c4 : 0 ≤ x8_1
    ·rw [if_pos c4] at H
     have c4b0 : decide (0 ≤ x8_1) = true := decide_eq_true c4
     clear c4
     by_cases c5 : x8_1 < (a0.size : Int)
     ·rw [if_pos c5] at H
      have c5b0 : decide (x8_1 < (a0.size : Int)) = true := decide_eq_true c5
      clear c5
      replace H := Option.bind_eq_some_iff.mp H
      obtain ⟨t143, A70, H⟩ := H
      replace H : (if t143 = true then (impl_plain.l0 k1 a0 a1 (a0.size : Int) (wrap64 (x8_1 + 1))) else (some false)) = some r := H
      have A7 := Aside0.mk A70
      clear A70
      by_cases c8 : t143 = true
      ·subst c8
       have H1 : (impl_plain.l0 k1 a0 a1 (a0.size : Int) (wrap64 (x8_1 + 1))) = some r := by rw [if_pos rfl] at H; exact H
       clear H
       have H := H1
       clear H1
       have H' := Aside0.mk H
       clear H
       have p6 : 0 ≤ (x8_1 : Int) := of_decide_eq_true u1_
       have q6 : x8_1 < (a0.size : Int) := of_decide_eq_true u1_
       have hx6 := bt_at a0 x8_1
       replace p6 := eq_true p6
       replace q6 := eq_true q6
       go_wp2_with (first | ((with_reducible refine gate_callee (f := 43) rfl ?_); refine goesL_ (some 15) rfl rfl Tryd.func43 u17_ rfl #[.int .i64 (wrap64 (bt a0 x8_1)), .int .i64 32, .int .i64 126] rfl u0_ ?_; (with_reducible refine (impl_within.calls (wrap64 (bt a0 x8_1)) 32 126 true _ A7.out).mono ?_); rintro e w' ⟨rfl, ⟨nd, rfl⟩⟩; refine ⟨_, rfl, ?_⟩))
       go_roundg k1
       case measure => have := HK1.out; omega
       case rel => exact ⟨(wrap64 (x8_1 + 1)), u22_, H', ⟨u102_⟩, u28_⟩
      ·replace c8 := Bool.eq_false_iff.mpr c8
       subst c8
       have H1 : (some false) = some r := by rw [if_neg (show ¬ (false = true) by decide)] at H; exact H
       clear H
       have H := H1
       clear H1
       obtain rfl := Option.some.inj H
       have p6 : 0 ≤ (x8_1 : Int) := of_decide_eq_true u1_
       have q6 : x8_1 < (a0.size : Int) := of_decide_eq_true u1_
       have hx6 := bt_at a0 x8_1
       replace p6 := eq_true p6
       replace q6 := eq_true q6
       go_wp2_with (first | ((with_reducible refine gate_callee (f := 43) rfl ?_); refine goesL_ (some 15) rfl rfl Tryd.func43 u17_ rfl #[.int .i64 (wrap64 (bt a0 x8_1)), .int .i64 32, .int .i64 126] rfl u0_ ?_; (with_reducible refine (impl_within.calls (wrap64 (bt a0 x8_1)) 32 126 false _ A7.out).mono ?_); rintro e w' ⟨rfl, ⟨nd, rfl⟩⟩; refine ⟨_, rfl, ?_⟩))
       go_ret
       exact ⟨u35_, u28_⟩
     ·rw [if_neg c5] at H
      exact absurd H u89_
    ·rw [if_neg c4] at H
     exact absurd H u89_
   ·rw [if_neg c3] at H
    have c3b0 : decide (x8_1 < (a0.size : Int)) = false := decide_eq_false c3
    clear c3
    obtain rfl := Option.some.inj H
    go_wp2
    go_ret
    exact ⟨u35_, u28_⟩

/-! ### impl_textOk: function 86 -/
def impl_textOk.f (k : Nat) (a0 : ByteArray) : Option (Bool) := (impl_plain.f k a0 60).bind fun t144 => (some t144)
theorem impl_textOk.mono : ∀ a0 k, LeO (impl_textOk.f k a0) (impl_textOk.f (k + 1) a0) := by
 intro a0 k
 unfold impl_textOk.f
 repeat' first
   | (with_reducible exact impl_plain.mono _ _ _)
   | (with_reducible exact LeO.refl _)
   | (with_reducible exact LeO.none _)
   | (with_reducible refine LeO.ite ?_ ?_)
   | (with_reducible refine LeO.bind ?_ (fun _ => ?_))
   | exact impl_plain.mono _ _ _
   | exact LeO.none _
   | refine LeO.ite ?_ ?_
   | refine LeO.bind ?_ (fun _ => ?_)
set_option maxHeartbeats 8000000 in
set_option maxRecDepth 100000 in
theorem impl_textOk.calls (k : Nat) (a0 : ByteArray) (r : Bool) (w : World) (h : impl_textOk.f k a0 = some r) :
  Calls Tryd.prog 86 #[.string a0] w fun e w' => e = .returned (.bool r) ∧ Drawn0 w w' := by
 have H : ((impl_plain.f k a0 60).bind fun t144 => (some t144)) = some r := h
 clear h
 replace H := Option.bind_eq_some_iff.mp H
 obtain ⟨t144, A20, H⟩ := H
 replace H : (some t144) = some r := H
 have A2 := Aside0.mk A20
 clear A20
 obtain rfl := Option.some.inj H
 go_enter Tryd.func86, Tryd.ntmps86
 go_wp2_with (first | ((with_reducible refine gate_callee (f := 103) rfl ?_); refine goesL_ (some 4) rfl rfl Tryd.func103 u17_ rfl #[.string a0, .int .i64 60] rfl u0_ ?_; (with_reducible refine (impl_plain.calls k a0 60 t144 _ A2.out).mono ?_); rintro e w' ⟨rfl, ⟨nd, rfl⟩⟩; refine ⟨_, rfl, ?_⟩))
 go_ret
 exact ⟨u35_, u28_⟩

/-! ### impl_wellFormed: function 54 -/
def impl_wellFormed.l0 : Nat → List (S74) → Int → Int → ByteArray → List (S74) → Option (Bool)
 | 0, _, _, _, _, _ => none
 | k + 1, x6, x7, x8, x146000, x146001 => if x8 < x7 then (if 0 ≤ x8 then (if x8 < (x6.length : Int) then ((impl_NameOk.f k ((rd_T74 x6 x8).f0)).bind fun t149 => (if t149 = true then ((impl_textOk.f k ((rd_T74 x6 x8).f1)).bind fun t150 => (if t150 = true then (if x8 > 0 then (if 0 ≤ (wrap64 (x8 - 1)) then (if (wrap64 (x8 - 1)) < (x146001.length : Int) then (if ((Op.bytesLess (((rd_T74 x146001 (wrap64 (x8 - 1))).f0).toList) (((rd_T74 x6 x8).f0).toList)) = true) then (impl_wellFormed.l0 k x6 x7 (wrap64 (x8 + 1)) x146000 x146001) else (some false)) else (none)) else (none)) else (impl_wellFormed.l0 k x6 x7 (wrap64 (x8 + 1)) x146000 x146001)) else (some false))) else (some false))) else (none)) else (none)) else ((impl_NameOk.f k x146000).bind fun t146 => (if t146 = true then (some (decide ((x146001.length : Int) ≤ 4))) else (some false)))
def impl_wellFormed.f (k : Nat) (a0_0 : ByteArray) (l0_1 : List (S74)) : Option (Bool) := impl_wellFormed.l0 k l0_1 (l0_1.length : Int) 0 a0_0 l0_1
theorem impl_wellFormed.mono_l : ∀ k, (∀ y0 y1 y2 y3 y4, LeO (impl_wellFormed.l0 k y0 y1 y2 y3 y4) (impl_wellFormed.l0 (k + 1) y0 y1 y2 y3 y4))
 | 0 => fun _ _ _ _ _ r h => by simp [impl_wellFormed.l0] at h
 | k + 1 => by
  have ih0 := impl_wellFormed.mono_l k
  ·intro y0 y1 y2 y3 y4
   unfold impl_wellFormed.l0
   repeat' first
   | (with_reducible exact ih0 _ _ _ _ _)
   | (with_reducible exact impl_NameOk.mono _ _)
   | (with_reducible exact impl_textOk.mono _ _)
   | (with_reducible exact LeO.refl _)
   | (with_reducible exact LeO.none _)
   | (with_reducible refine LeO.ite ?_ ?_)
   | (with_reducible refine LeO.bind ?_ (fun _ => ?_))
   | exact ih0 _ _ _ _ _
   | exact impl_NameOk.mono _ _
   | exact impl_textOk.mono _ _
   | exact LeO.none _
   | refine LeO.ite ?_ ?_
   | refine LeO.bind ?_ (fun _ => ?_)
theorem impl_wellFormed.mono : ∀ a0 a1 k, LeO (impl_wellFormed.f k a0 a1) (impl_wellFormed.f (k + 1) a0 a1) := by
 intro a0 a1 k
 have ih0 := impl_wellFormed.mono_l k
 unfold impl_wellFormed.f
 repeat' first
   | (with_reducible exact ih0 _ _ _ _ _)
   | (with_reducible exact impl_NameOk.mono _ _)
   | (with_reducible exact impl_textOk.mono _ _)
   | (with_reducible exact LeO.refl _)
   | (with_reducible exact LeO.none _)
   | (with_reducible refine LeO.ite ?_ ?_)
   | (with_reducible refine LeO.bind ?_ (fun _ => ?_))
   | exact ih0 _ _ _ _ _
   | exact impl_NameOk.mono _ _
   | exact impl_textOk.mono _ _
   | exact LeO.none _
   | refine LeO.ite ?_ ?_
   | refine LeO.bind ?_ (fun _ => ?_)
set_option maxHeartbeats 8000000 in
set_option maxRecDepth 100000 in
theorem impl_wellFormed.calls (k : Nat) (a0_0 : ByteArray) (A0_1 : Option Addr) (c0_1 : Nat) (l0_1 : List (S74)) (r : Bool) (w : World) (hr0_1 : Kd.C k74 w A0_1 l0_1.length l0_1) (hc0_1 : l0_1.length ≤ c0_1) (h : impl_wellFormed.f k a0_0 l0_1 = some r) :
  Calls Tryd.prog 54 #[.agg #[.string a0_0, .slice A0_1 l0_1.length c0_1]] w fun e w' => e = .returned (.bool r) ∧ Below w.heap.size w w' := by
 have hu37 := Tryd.underlying37
 have hu74 := Tryd.underlying74
 have HR0_1 := Aside0.mk hr0_1
 have HC0_1 := Aside0.mk hc0_1
 clear hr0_1 hc0_1
 have HB := Aside0.mk (Below.refl w.heap.size w)
 have H : (impl_wellFormed.l0 k l0_1 (l0_1.length : Int) 0 a0_0 l0_1) = some r := h
 clear h
 have H' := Aside0.mk H
 clear H
 go_enter Tryd.func54, Tryd.ntmps54
 go_wp2_with (first | ((with_reducible refine gate_dst (N := 1) rfl ?_); (try (refine gate_guard u67_ ?_; dsimp only)); refine box_event ?hg (N := 1) ?hd (cs := #[.string a0_0, .slice A0_1 l0_1.length c0_1]) (t := 37) ?hr ?_; (case hd => rfl); (case hg => rfl); (case hr => first | (go_simp; done) | (go_simp; rfl)); intro gb145 hg w2 hbox hb; have n0_ := Aside0.mk (below_step u3_ hb); have n1_ := Aside0.mk (hbox); have n2_ := Aside0.mk ((by rw [hg]; exact (below_size u3_) : w.heap.size ≤ gb145)); have n3_ := n2_; clear HB; have HB := n0_; have BK145 := n1_; have GW145 := n2_; have GE145 := n3_; clear n0_ n1_ n2_ n3_; clear hb hbox hg; have hcz3_0 : w2.cell? ⟨gb145, 0, none⟩ = some (.string a0_0) := (blk_cell BK145.out 0).trans rfl; have hcz3_1 : w2.cell? ⟨gb145, 1, none⟩ = some (.slice A0_1 l0_1.length c0_1) := (blk_cell BK145.out 1).trans rfl; have hfz3_0 := blk_frozen BK145.out 0; have hfz3_1 := blk_frozen BK145.out 1))
 repeat (go_quiet (first | ((with_reducible refine gate_dst (N := 1) rfl ?_); (try (refine gate_guard u67_ ?_; dsimp only)); refine box_event ?hg (N := 1) ?hd (cs := #[.string a0_0, .slice A0_1 l0_1.length c0_1]) (t := 37) ?hr ?_; (case hd => rfl); (case hg => rfl); (case hr => first | (go_simp; done) | (go_simp; rfl)); intro gb145 hg w2 hbox hb; have n0_ := Aside0.mk (below_step u3_ hb); have n1_ := Aside0.mk (hbox); have n2_ := Aside0.mk ((by rw [hg]; exact (below_size u3_) : w.heap.size ≤ gb145)); have n3_ := n2_; clear HB; have HB := n0_; have BK145 := n1_; have GW145 := n2_; have GE145 := n3_; clear n0_ n1_ n2_ n3_; clear hb hbox hg; have hcz3_0 : w2.cell? ⟨gb145, 0, none⟩ = some (.string a0_0) := (blk_cell BK145.out 0).trans rfl; have hcz3_1 : w2.cell? ⟨gb145, 1, none⟩ = some (.slice A0_1 l0_1.length c0_1) := (blk_cell BK145.out 1).trans rfl; have hfz3_0 := blk_frozen BK145.out 0; have hfz3_1 := blk_frozen BK145.out 1)); try go_wp2_with (first | ((with_reducible refine gate_dst (N := 1) rfl ?_); (try (refine gate_guard u67_ ?_; dsimp only)); refine box_event ?hg (N := 1) ?hd (cs := #[.string a0_0, .slice A0_1 l0_1.length c0_1]) (t := 37) ?hr ?_; (case hd => rfl); (case hg => rfl); (case hr => first | (go_simp; done) | (go_simp; rfl)); intro gb145 hg w2 hbox hb; have n0_ := Aside0.mk (below_step u3_ hb); have n1_ := Aside0.mk (hbox); have n2_ := Aside0.mk ((by rw [hg]; exact (below_size u3_) : w.heap.size ≤ gb145)); have n3_ := Aside0.mk ((by rw [hg]; exact (below_size u3_) : w.heap.size ≤ gb145)); clear HB; have HB := n0_; have BK145 := n1_; have GW145 := n2_; have GE145 := n3_; clear n0_ n1_ n2_ n3_; clear hb hbox hg; have hcz3_0 : w2.cell? ⟨gb145, 0, none⟩ = some (.string a0_0) := (blk_cell BK145.out 0).trans rfl; have hcz3_1 : w2.cell? ⟨gb145, 1, none⟩ = some (.slice A0_1 l0_1.length c0_1) := (blk_cell BK145.out 1).trans rfl; have hfz3_0 := blk_frozen BK145.out 0; have hfz3_1 := blk_frozen BK145.out 1)))
 go_loopg [8] k (fun kq v8 w' => ∃ (x8_1 : Int), v8 = .int .i64 x8_1 ∧ Aside0 (impl_wellFormed.l0 kq l0_1 (l0_1.length : Int) x8_1 a0_0 l0_1 = some r) ∧ Aside0 (kq ≤ k) ∧ Aside0 (w'.heap[gb145]? = some (.cells #[.string a0_0, (.slice A0_1 l0_1.length c0_1)] 37 (0, 0))) ∧ Aside0 (Below w.heap.size w w'))
 case atStart => exact ⟨(0), u22_, H', ⟨Nat.le_refl _⟩, ⟨u10_⟩, ⟨u6_⟩⟩
 case round =>
  clear H'
  try clear p2
  try clear hcz3_0
  try clear hcz3_1
  try clear hfz3_0
  try clear hfz3_1
  obtain ⟨x8_1, rfl, HA, HK1, BK145, HB⟩ := hrel
  cases gk with
  | zero => exact absurd HA.out (by simp [impl_wellFormed.l0])
  | succ k1 =>
   have H := HA.out
   clear HA
   simp only [impl_wellFormed.l0] at H
   by_cases c4 : x8_1 < (l0_1.length : Int)
   ·rw [if_pos c4] at H
    have c4b0 : decide (x8_1 < (l0_1.length : Int)) = true := decide_eq_true c4
    clear c4
    by_cases c5 : 0 ≤ x8_1
    ·rw [if_pos c5] at H
     have c5b0 : decide (0 ≤ x8_1) = true := decide_eq_true c5
     clear c5
     by_cases c6 : x8_1 < (l0_1.length : Int)
     ·rw [if_pos c6] at H
      have c6b0 : decide (x8_1 < (l0_1.length : Int)) = true := decide_eq_true c6
      clear c6
      replace H := Option.bind_eq_some_iff.mp H
      obtain ⟨t149, A70, H⟩ := H
      replace H : (if t149 = true then ((impl_textOk.f k1 ((rd_T74 l0_1 x8_1).f1)).bind fun t150 => (if t150 = true then (if x8_1 > 0 then (if 0 ≤ (wrap64 (x8_1 - 1)) then (if (wrap64 (x8_1 - 1)) < (l0_1.length : Int) then (if ((Op.bytesLess (((rd_T74 l0_1 (wrap64 (x8_1 - 1))).f0).toList) (((rd_T74 l0_1 x8_1).f0).toList)) = true) then (impl_wellFormed.l0 k1 l0_1 (l0_1.length : Int) (wrap64 (x8_1 + 1)) a0_0 l0_1) else (some false)) else (none)) else (none)) else (impl_wellFormed.l0 k1 l0_1 (l0_1.length : Int) (wrap64 (x8_1 + 1)) a0_0 l0_1)) else (some false))) else (some false)) = some r := H
      have A7 := Aside0.mk A70
      clear A70
      by_cases c8 : t149 = true
      ·subst c8
       have H1 : ((impl_textOk.f k1 ((rd_T74 l0_1 x8_1).f1)).bind fun t150 => (if t150 = true then (if x8_1 > 0 then (if 0 ≤ (wrap64 (x8_1 - 1)) then (if (wrap64 (x8_1 - 1)) < (l0_1.length : Int) then (if ((Op.bytesLess (((rd_T74 l0_1 (wrap64 (x8_1 - 1))).f0).toList) (((rd_T74 l0_1 x8_1).f0).toList)) = true) then (impl_wellFormed.l0 k1 l0_1 (l0_1.length : Int) (wrap64 (x8_1 + 1)) a0_0 l0_1) else (some false)) else (none)) else (none)) else (impl_wellFormed.l0 k1 l0_1 (l0_1.length : Int) (wrap64 (x8_1 + 1)) a0_0 l0_1)) else (some false))) = some r := by rw [if_pos rfl] at H; exact H
       clear H
       have H := H1
       clear H1
       replace H := Option.bind_eq_some_iff.mp H
       obtain ⟨t150, A90, H⟩ := H
       replace H : (if t150 = true then (if x8_1 > 0 then (if 0 ≤ (wrap64 (x8_1 - 1)) then (if (wrap64 (x8_1 - 1)) < (l0_1.length : Int) then (if ((Op.bytesLess (((rd_T74 l0_1 (wrap64 (x8_1 - 1))).f0).toList) (((rd_T74 l0_1 x8_1).f0).toList)) = true) then (impl_wellFormed.l0 k1 l0_1 (l0_1.length : Int) (wrap64 (x8_1 + 1)) a0_0 l0_1) else (some false)) else (none)) else (none)) else (impl_wellFormed.l0 k1 l0_1 (l0_1.length : Int) (wrap64 (x8_1 + 1)) a0_0 l0_1)) else (some false)) = some r := H
       have A9 := Aside0.mk A90
       clear A90
       by_cases c10 : t150 = true
       ·subst c10
        have H1 : (if x8_1 > 0 then (if 0 ≤ (wrap64 (x8_1 - 1)) then (if (wrap64 (x8_1 - 1)) < (l0_1.length : Int) then (if ((Op.bytesLess (((rd_T74 l0_1 (wrap64 (x8_1 - 1))).f0).toList) (((rd_T74 l0_1 x8_1).f0).toList)) = true) then (impl_wellFormed.l0 k1 l0_1 (l0_1.length : Int) (wrap64 (x8_1 + 1)) a0_0 l0_1) else (some false)) else (none)) else (none)) else (impl_wellFormed.l0 k1 l0_1 (l0_1.length : Int) (wrap64 (x8_1 + 1)) a0_0 l0_1)) = some r := by rw [if_pos rfl] at H; exact H
        clear H
        have H := H1
        clear H1
        by_cases c11 : x8_1 > 0
        ·rw [if_pos c11] at H
         have c11b0 : decide (0 < x8_1) = true := decide_eq_true c11
         clear c11
         obtain ⟨ji12, hji12⟩ : ∃ j_ : Int, (wrap64 (x8_1 - 1)) = j_ := ⟨_, rfl⟩
         replace H : (if 0 ≤ (ji12) then (if (ji12) < (l0_1.length : Int) then (if ((Op.bytesLess (((rd_T74 l0_1 (ji12)).f0).toList) (((rd_T74 l0_1 x8_1).f0).toList)) = true) then (impl_wellFormed.l0 k1 l0_1 (l0_1.length : Int) (wrap64 (x8_1 + 1)) a0_0 l0_1) else (some false)) else (none)) else (none)) = some r := by first | (rw [hji12] at H; exact H) | (simp only [hji12] at H ⊢; exact H)
         (try rw [hji12] at A7)
         (try rw [hji12] at A9)
         have hji12w : (IntKind.i64.wrap (x8_1 - 1)) = ji12 := (i64_w _).trans hji12
         by_cases c13 : 0 ≤ (ji12)
         ·rw [if_pos c13] at H
          have c13b0 : decide (0 ≤ (ji12)) = true := decide_eq_true c13
          clear c13
          by_cases c14 : (ji12) < (l0_1.length : Int)
          ·rw [if_pos c14] at H
           have c14b0 : decide ((ji12) < (l0_1.length : Int)) = true := decide_eq_true c14
           clear c14
           by_cases c15 : ((Op.bytesLess (((rd_T74 l0_1 (ji12)).f0).toList) (((rd_T74 l0_1 x8_1).f0).toList)) = true)
           ·rw [if_pos c15] at H
            have c15b0 : (Op.bytesLess (((rd_T74 l0_1 (ji12)).f0).toList) (((rd_T74 l0_1 x8_1).f0).toList)) = true := c15
            clear c15
            have H' := Aside0.mk H
            clear H
            have p147 : 0 ≤ (x8_1 : Int) := of_decide_eq_true u1_
            have q147 : x8_1 < (l0_1.length : Int) := of_decide_eq_true u1_
            obtain ⟨ad147, e147, hx147_0, hx147_1⟩ := at_T74 HR0_1.out x8_1 p147 q147
            cases e147
            replace hx147_0 := (HB.out.cell (World.block_lt_of_cell? w _ hx147_0)).trans hx147_0
            replace hx147_1 := (HB.out.cell (World.block_lt_of_cell? w _ hx147_1)).trans hx147_1
            replace p147 := eq_true p147
            replace q147 := eq_true q147
            go_wp2_with (first | ((with_reducible refine gate_dst (N := 4) rfl ?_); (try (refine gate_guard u67_ ?_; dsimp only)); refine box_event ?hg (N := 4) ?hd (cs := #[.string (⟨#[]⟩ : ByteArray), .string (⟨#[]⟩ : ByteArray)]) (t := 74) ?hr ?_; (case hd => rfl); (case hg => rfl); (case hr => first | (go_simp; done) | (go_simp; rfl)); intro gb148 hg w16 hbox hb; have n0_ := Aside0.mk (blk_below (g := gb145) (o := .cells #[.string a0_0, .slice (some ad147) l0_1.length c0_1] 37 (0, 0)) u10_ hb); have n1_ := Aside0.mk (below_step u6_ hb); have n2_ := Aside0.mk (hbox); have n3_ := Aside0.mk ((by rw [hg]; exact (below_size u6_) : w.heap.size ≤ gb148)); have n4_ := n3_; have n5_ := Aside0.mk ((by rw [hg]; exact Nat.ne_of_lt (blk_lt (g := gb145) (o := .cells #[.string a0_0, .slice (some ad147) l0_1.length c0_1] 37 (0, 0)) u10_) : gb145 ≠ gb148)); have n6_ := Aside0.mk ((by rw [hg]; exact Nat.ne_of_gt (blk_lt (g := gb145) (o := .cells #[.string a0_0, .slice (some ad147) l0_1.length c0_1] 37 (0, 0)) u10_) : gb148 ≠ gb145)); clear BK145; clear HB; have BK145 := n0_; have HB := n1_; have BK148 := n2_; have GW148 := n3_; have GE148 := n4_; have NB145_148 := n5_; have NB148_145 := n6_; clear n0_ n1_ n2_ n3_ n4_ n5_ n6_; clear hb hbox hg; have hnb17 := NB148_145.out; have hnc17 := NB145_148.out; have hcz18_0 : w16.cell? ⟨gb148, 0, none⟩ = some (.string (⟨#[]⟩ : ByteArray)) := (blk_cell BK148.out 0).trans rfl; have hcz18_1 : w16.cell? ⟨gb148, 1, none⟩ = some (.string (⟨#[]⟩ : ByteArray)) := (blk_cell BK148.out 1).trans rfl; have hfz18_0 := blk_frozen BK148.out 0; have hfz18_1 := blk_frozen BK148.out 1) | (go_at_call 44; (with_reducible refine (impl_NameOk.calls k1 ((rd_T74 l0_1 x8_1).f0) true _ A7.out).mono ?_); rintro e w' ⟨rfl, ⟨nd, rfl⟩⟩; (try first | exact ⟨rfl, _, World.drewN_drewN _ _ _⟩ | exact ⟨rfl, _, Eq.trans (World.drewN_drewN _ _ _) (congrArg (World.drewN _) (Nat.add_assoc _ _ _))⟩)) | (go_at_call 86; (with_reducible refine (impl_textOk.calls k1 ((rd_T74 l0_1 x8_1).f1) true _ A9.out).mono ?_); rintro e w' ⟨rfl, ⟨nd, rfl⟩⟩; (try first | exact ⟨rfl, _, World.drewN_drewN _ _ _⟩ | exact ⟨rfl, _, Eq.trans (World.drewN_drewN _ _ _) (congrArg (World.drewN _) (Nat.add_assoc _ _ _))⟩); have hcz19_0 : w16.cell? ⟨gb145, 0, none⟩ = some (.string a0_0) := (blk_cell BK145.out 0).trans rfl; have hcz19_1 : w16.cell? ⟨gb145, 1, none⟩ = some (.slice (some ad147) l0_1.length c0_1) := (blk_cell BK145.out 1).trans rfl; have hfz19_0 := blk_frozen BK145.out 0; have hfz19_1 := blk_frozen BK145.out 1; have p151 : 0 ≤ ((ji12) : Int) := of_decide_eq_true u1_; have q151 : (ji12) < (l0_1.length : Int) := of_decide_eq_true u1_; obtain ⟨ad151, e151, hx151_0, hx151_1⟩ := at_T74 HR0_1.out (ji12) p151 q151; obtain rfl : ad147 = ad151 := (by injection e151); have hn151_0 : ad147.block ≠ gb148 := Nat.ne_of_lt (Nat.lt_of_lt_of_le (by have := World.block_lt_of_cell? _ _ hx151_0; first | rwa [add_block] at this | exact this) GW148.out); have hn151_1 : ad147.block ≠ gb148 := Nat.ne_of_lt (Nat.lt_of_lt_of_le (by have := World.block_lt_of_cell? _ _ hx151_0; first | rwa [add_block] at this | exact this) GW148.out); replace hx151_0 := (HB.out.cell (World.block_lt_of_cell? w _ hx151_0)).trans hx151_0; replace hx151_1 := (HB.out.cell (World.block_lt_of_cell? w _ hx151_1)).trans hx151_1; replace hx151_0 := (cell_far (p := ⟨gb148, 0, none⟩) u48_ (.string ((rd_T74 l0_1 x8_1).f0))).trans hx151_0; replace hx151_1 := (cell_far (p := ⟨gb148, 0, none⟩) u48_ (.string ((rd_T74 l0_1 x8_1).f0))).trans hx151_1; replace hx151_0 := (cell_far (p := ⟨gb148, 1, none⟩) u49_ (.string ((rd_T74 l0_1 x8_1).f1))).trans hx151_0; replace hx151_1 := (cell_far (p := ⟨gb148, 1, none⟩) u49_ (.string ((rd_T74 l0_1 x8_1).f1))).trans hx151_1; (try have hy151_0 := fun (n_ : Nat) => (show ((((w16.drewN n_).setCell ⟨gb148, 0, none⟩ (.string ((rd_T74 l0_1 x8_1).f0))).setCell ⟨gb148, 1, none⟩ (.string ((rd_T74 l0_1 x8_1).f1)))).cell? _ = some _ from hx151_0)); (try have hy151_1 := fun (n_ : Nat) => (show ((((w16.drewN n_).setCell ⟨gb148, 0, none⟩ (.string ((rd_T74 l0_1 x8_1).f0))).setCell ⟨gb148, 1, none⟩ (.string ((rd_T74 l0_1 x8_1).f1)))).cell? _ = some _ from hx151_1)); clear hn151_0; clear hn151_1; replace p151 := eq_true p151; replace q151 := eq_true q151))
            repeat (go_quiet (first | ((with_reducible refine gate_dst (N := 4) rfl ?_); (try (refine gate_guard u67_ ?_; dsimp only)); refine box_event ?hg (N := 4) ?hd (cs := #[.string (⟨#[]⟩ : ByteArray), .string (⟨#[]⟩ : ByteArray)]) (t := 74) ?hr ?_; (case hd => rfl); (case hg => rfl); (case hr => first | (go_simp; done) | (go_simp; rfl)); intro gb148 hg w16 hbox hb; have n0_ := Aside0.mk (blk_below (g := gb145) (o := .cells #[.string a0_0, .slice (some ad147) l0_1.length c0_1] 37 (0, 0)) u10_ hb); have n1_ := Aside0.mk (below_step u6_ hb); have n2_ := Aside0.mk (hbox); have n3_ := Aside0.mk ((by rw [hg]; exact (below_size u6_) : w.heap.size ≤ gb148)); have n4_ := n3_; have n5_ := Aside0.mk ((by rw [hg]; exact Nat.ne_of_lt (blk_lt (g := gb145) (o := .cells #[.string a0_0, .slice (some ad147) l0_1.length c0_1] 37 (0, 0)) u10_) : gb145 ≠ gb148)); have n6_ := Aside0.mk ((by rw [hg]; exact Nat.ne_of_gt (blk_lt (g := gb145) (o := .cells #[.string a0_0, .slice (some ad147) l0_1.length c0_1] 37 (0, 0)) u10_) : gb148 ≠ gb145)); clear BK145; clear HB; have BK145 := n0_; have HB := n1_; have BK148 := n2_; have GW148 := n3_; have GE148 := n4_; have NB145_148 := n5_; have NB148_145 := n6_; clear n0_ n1_ n2_ n3_ n4_ n5_ n6_; clear hb hbox hg; have hnb17 := NB148_145.out; have hnc17 := NB145_148.out; have hcz18_0 : w16.cell? ⟨gb148, 0, none⟩ = some (.string (⟨#[]⟩ : ByteArray)) := (blk_cell BK148.out 0).trans rfl; have hcz18_1 : w16.cell? ⟨gb148, 1, none⟩ = some (.string (⟨#[]⟩ : ByteArray)) := (blk_cell BK148.out 1).trans rfl; have hfz18_0 := blk_frozen BK148.out 0; have hfz18_1 := blk_frozen BK148.out 1) | (go_at_call 44; (with_reducible refine (impl_NameOk.calls k1 ((rd_T74 l0_1 x8_1).f0) true _ A7.out).mono ?_); rintro e w' ⟨rfl, ⟨nd, rfl⟩⟩; (try first | exact ⟨rfl, _, World.drewN_drewN _ _ _⟩ | exact ⟨rfl, _, Eq.trans (World.drewN_drewN _ _ _) (congrArg (World.drewN _) (Nat.add_assoc _ _ _))⟩)) | (go_at_call 86; (with_reducible refine (impl_textOk.calls k1 ((rd_T74 l0_1 x8_1).f1) true _ A9.out).mono ?_); rintro e w' ⟨rfl, ⟨nd, rfl⟩⟩; (try first | exact ⟨rfl, _, World.drewN_drewN _ _ _⟩ | exact ⟨rfl, _, Eq.trans (World.drewN_drewN _ _ _) (congrArg (World.drewN _) (Nat.add_assoc _ _ _))⟩); have hcz19_0 : w16.cell? ⟨gb145, 0, none⟩ = some (.string a0_0) := (blk_cell BK145.out 0).trans rfl; have hcz19_1 : w16.cell? ⟨gb145, 1, none⟩ = some (.slice (some ad147) l0_1.length c0_1) := (blk_cell BK145.out 1).trans rfl; have hfz19_0 := blk_frozen BK145.out 0; have hfz19_1 := blk_frozen BK145.out 1; have p151 : 0 ≤ ((ji12) : Int) := of_decide_eq_true u1_; have q151 : (ji12) < (l0_1.length : Int) := of_decide_eq_true u1_; obtain ⟨ad151, e151, hx151_0, hx151_1⟩ := at_T74 HR0_1.out (ji12) p151 q151; obtain rfl : ad147 = ad151 := (by injection e151); have hn151_0 : ad147.block ≠ gb148 := Nat.ne_of_lt (Nat.lt_of_lt_of_le (by have := World.block_lt_of_cell? _ _ hx151_0; first | rwa [add_block] at this | exact this) GW148.out); have hn151_1 : ad147.block ≠ gb148 := Nat.ne_of_lt (Nat.lt_of_lt_of_le (by have := World.block_lt_of_cell? _ _ hx151_0; first | rwa [add_block] at this | exact this) GW148.out); replace hx151_0 := (HB.out.cell (World.block_lt_of_cell? w _ hx151_0)).trans hx151_0; replace hx151_1 := (HB.out.cell (World.block_lt_of_cell? w _ hx151_1)).trans hx151_1; replace hx151_0 := (cell_far (p := ⟨gb148, 0, none⟩) u48_ (.string ((rd_T74 l0_1 x8_1).f0))).trans hx151_0; replace hx151_1 := (cell_far (p := ⟨gb148, 0, none⟩) u48_ (.string ((rd_T74 l0_1 x8_1).f0))).trans hx151_1; replace hx151_0 := (cell_far (p := ⟨gb148, 1, none⟩) u49_ (.string ((rd_T74 l0_1 x8_1).f1))).trans hx151_0; replace hx151_1 := (cell_far (p := ⟨gb148, 1, none⟩) u49_ (.string ((rd_T74 l0_1 x8_1).f1))).trans hx151_1; (try have hy151_0 := fun (n_ : Nat) => (show ((((w16.drewN n_).setCell ⟨gb148, 0, none⟩ (.string ((rd_T74 l0_1 x8_1).f0))).setCell ⟨gb148, 1, none⟩ (.string ((rd_T74 l0_1 x8_1).f1)))).cell? _ = some _ from hx151_0)); (try have hy151_1 := fun (n_ : Nat) => (show ((((w16.drewN n_).setCell ⟨gb148, 0, none⟩ (.string ((rd_T74 l0_1 x8_1).f0))).setCell ⟨gb148, 1, none⟩ (.string ((rd_T74 l0_1 x8_1).f1)))).cell? _ = some _ from hx151_1)); clear hn151_0; clear hn151_1; replace p151 := eq_true p151; replace q151 := eq_true q151)); try go_wp2_with (first | ((with_reducible refine gate_dst (N := 4) rfl ?_); (try (refine gate_guard u67_ ?_; dsimp only)); refine box_event ?hg (N := 4) ?hd (cs := #[.string (⟨#[]⟩ : ByteArray), .string (⟨#[]⟩ : ByteArray)]) (t := 74) ?hr ?_; (case hd => rfl); (case hg => rfl); (case hr => first | (go_simp; done) | (go_simp; rfl)); intro gb148 hg w16 hbox hb; have n0_ := Aside0.mk (blk_below (g := gb145) (o := .cells #[.string a0_0, .slice (some ad147) l0_1.length c0_1] 37 (0, 0)) u10_ hb); have n1_ := Aside0.mk (below_step u6_ hb); have n2_ := Aside0.mk (hbox); have n3_ := Aside0.mk ((by rw [hg]; exact (below_size u6_) : w.heap.size ≤ gb148)); have n4_ := Aside0.mk ((by rw [hg]; exact (below_size u6_) : w.heap.size ≤ gb148)); have n5_ := Aside0.mk ((by rw [hg]; exact Nat.ne_of_lt (blk_lt (g := gb145) (o := .cells #[.string a0_0, .slice (some ad147) l0_1.length c0_1] 37 (0, 0)) u10_) : gb145 ≠ gb148)); have n6_ := Aside0.mk ((by rw [hg]; exact Nat.ne_of_gt (blk_lt (g := gb145) (o := .cells #[.string a0_0, .slice (some ad147) l0_1.length c0_1] 37 (0, 0)) u10_) : gb148 ≠ gb145)); clear BK145; clear HB; have BK145 := n0_; have HB := n1_; have BK148 := n2_; have GW148 := n3_; have GE148 := n4_; have NB145_148 := n5_; have NB148_145 := n6_; clear n0_ n1_ n2_ n3_ n4_ n5_ n6_; clear hb hbox hg; have hnb17 := NB148_145.out; have hnc17 := NB145_148.out; have hcz18_0 : w16.cell? ⟨gb148, 0, none⟩ = some (.string (⟨#[]⟩ : ByteArray)) := (blk_cell BK148.out 0).trans rfl; have hcz18_1 : w16.cell? ⟨gb148, 1, none⟩ = some (.string (⟨#[]⟩ : ByteArray)) := (blk_cell BK148.out 1).trans rfl; have hfz18_0 := blk_frozen BK148.out 0; have hfz18_1 := blk_frozen BK148.out 1) | (go_at_call 44; (with_reducible refine (impl_NameOk.calls k1 ((rd_T74 l0_1 x8_1).f0) true _ A7.out).mono ?_); rintro e w' ⟨rfl, ⟨nd, rfl⟩⟩; (try first | exact ⟨rfl, _, World.drewN_drewN _ _ _⟩ | exact ⟨rfl, _, Eq.trans (World.drewN_drewN _ _ _) (congrArg (World.drewN _) (Nat.add_assoc _ _ _))⟩)) | (go_at_call 86; (with_reducible refine (impl_textOk.calls k1 ((rd_T74 l0_1 x8_1).f1) true _ A9.out).mono ?_); rintro e w' ⟨rfl, ⟨nd, rfl⟩⟩; (try first | exact ⟨rfl, _, World.drewN_drewN _ _ _⟩ | exact ⟨rfl, _, Eq.trans (World.drewN_drewN _ _ _) (congrArg (World.drewN _) (Nat.add_assoc _ _ _))⟩); have hcz19_0 : w16.cell? ⟨gb145, 0, none⟩ = some (.string a0_0) := (blk_cell BK145.out 0).trans rfl; have hcz19_1 : w16.cell? ⟨gb145, 1, none⟩ = some (.slice (some ad147) l0_1.length c0_1) := (blk_cell BK145.out 1).trans rfl; have hfz19_0 := blk_frozen BK145.out 0; have hfz19_1 := blk_frozen BK145.out 1; have p151 : 0 ≤ ((ji12) : Int) := of_decide_eq_true u1_; have q151 : (ji12) < (l0_1.length : Int) := of_decide_eq_true u1_; obtain ⟨ad151, e151, hx151_0, hx151_1⟩ := at_T74 HR0_1.out (ji12) p151 q151; obtain rfl : ad147 = ad151 := (by injection e151); have hn151_0 : ad147.block ≠ gb148 := Nat.ne_of_lt (Nat.lt_of_lt_of_le (by have := World.block_lt_of_cell? _ _ hx151_0; first | rwa [add_block] at this | exact this) GW148.out); have hn151_1 : ad147.block ≠ gb148 := Nat.ne_of_lt (Nat.lt_of_lt_of_le (by have := World.block_lt_of_cell? _ _ hx151_0; first | rwa [add_block] at this | exact this) GW148.out); replace hx151_0 := (HB.out.cell (World.block_lt_of_cell? w _ hx151_0)).trans hx151_0; replace hx151_1 := (HB.out.cell (World.block_lt_of_cell? w _ hx151_1)).trans hx151_1; replace hx151_0 := (cell_far (p := ⟨gb148, 0, none⟩) u48_ (.string ((rd_T74 l0_1 x8_1).f0))).trans hx151_0; replace hx151_1 := (cell_far (p := ⟨gb148, 0, none⟩) u48_ (.string ((rd_T74 l0_1 x8_1).f0))).trans hx151_1; replace hx151_0 := (cell_far (p := ⟨gb148, 1, none⟩) u49_ (.string ((rd_T74 l0_1 x8_1).f1))).trans hx151_0; replace hx151_1 := (cell_far (p := ⟨gb148, 1, none⟩) u49_ (.string ((rd_T74 l0_1 x8_1).f1))).trans hx151_1; (try have hy151_0 := fun (n_ : Nat) => (show ((((w16.drewN n_).setCell ⟨gb148, 0, none⟩ (.string ((rd_T74 l0_1 x8_1).f0))).setCell ⟨gb148, 1, none⟩ (.string ((rd_T74 l0_1 x8_1).f1)))).cell? _ = some _ from hx151_0)); (try have hy151_1 := fun (n_ : Nat) => (show ((((w16.drewN n_).setCell ⟨gb148, 0, none⟩ (.string ((rd_T74 l0_1 x8_1).f0))).setCell ⟨gb148, 1, none⟩ (.string ((rd_T74 l0_1 x8_1).f1)))).cell? _ = some _ from hx151_1)); clear hn151_0; clear hn151_1; replace p151 := eq_true p151; replace q151 := eq_true q151)))
            go_roundg k1
            case measure => have := HK1.out; omega
            case rel => exact ⟨(wrap64 (x8_1 + 1)), u22_, H', ⟨u102_⟩, ⟨u103_⟩, ⟨u74_⟩⟩
           ·rw [if_neg c15] at H
            have c15b0 : (Op.bytesLess (((rd_T74 l0_1 (ji12)).f0).toList) (((rd_T74 l0_1 x8_1).f0).toList)) = false := by simpa using c15
            clear c15
            obtain rfl := Option.some.inj H
            have p147 : 0 ≤ (x8_1 : Int) := of_decide_eq_true u1_
            have q147 : x8_1 < (l0_1.length : Int) := of_decide_eq_true u1_
            obtain ⟨ad147, e147, hx147_0, hx147_1⟩ := at_T74 HR0_1.out x8_1 p147 q147
            cases e147
            replace hx147_0 := (HB.out.cell (World.block_lt_of_cell? w _ hx147_0)).trans hx147_0
            replace hx147_1 := (HB.out.cell (World.block_lt_of_cell? w _ hx147_1)).trans hx147_1
            replace p147 := eq_true p147
            replace q147 := eq_true q147
            go_wp2_with (first | ((with_reducible refine gate_dst (N := 4) rfl ?_); (try (refine gate_guard u67_ ?_; dsimp only)); refine box_event ?hg (N := 4) ?hd (cs := #[.string (⟨#[]⟩ : ByteArray), .string (⟨#[]⟩ : ByteArray)]) (t := 74) ?hr ?_; (case hd => rfl); (case hg => rfl); (case hr => first | (go_simp; done) | (go_simp; rfl)); intro gb148 hg w20 hbox hb; have n0_ := Aside0.mk (blk_below (g := gb145) (o := .cells #[.string a0_0, .slice (some ad147) l0_1.length c0_1] 37 (0, 0)) u10_ hb); have n1_ := Aside0.mk (below_step u6_ hb); have n2_ := Aside0.mk (hbox); have n3_ := Aside0.mk ((by rw [hg]; exact (below_size u6_) : w.heap.size ≤ gb148)); have n4_ := n3_; have n5_ := Aside0.mk ((by rw [hg]; exact Nat.ne_of_lt (blk_lt (g := gb145) (o := .cells #[.string a0_0, .slice (some ad147) l0_1.length c0_1] 37 (0, 0)) u10_) : gb145 ≠ gb148)); have n6_ := Aside0.mk ((by rw [hg]; exact Nat.ne_of_gt (blk_lt (g := gb145) (o := .cells #[.string a0_0, .slice (some ad147) l0_1.length c0_1] 37 (0, 0)) u10_) : gb148 ≠ gb145)); clear BK145; clear HB; have BK145 := n0_; have HB := n1_; have BK148 := n2_; have GW148 := n3_; have GE148 := n4_; have NB145_148 := n5_; have NB148_145 := n6_; clear n0_ n1_ n2_ n3_ n4_ n5_ n6_; clear hb hbox hg; have hnb21 := NB148_145.out; have hnc21 := NB145_148.out; have hcz22_0 : w20.cell? ⟨gb148, 0, none⟩ = some (.string (⟨#[]⟩ : ByteArray)) := (blk_cell BK148.out 0).trans rfl; have hcz22_1 : w20.cell? ⟨gb148, 1, none⟩ = some (.string (⟨#[]⟩ : ByteArray)) := (blk_cell BK148.out 1).trans rfl; have hfz22_0 := blk_frozen BK148.out 0; have hfz22_1 := blk_frozen BK148.out 1) | (go_at_call 44; (with_reducible refine (impl_NameOk.calls k1 ((rd_T74 l0_1 x8_1).f0) true _ A7.out).mono ?_); rintro e w' ⟨rfl, ⟨nd, rfl⟩⟩; (try first | exact ⟨rfl, _, World.drewN_drewN _ _ _⟩ | exact ⟨rfl, _, Eq.trans (World.drewN_drewN _ _ _) (congrArg (World.drewN _) (Nat.add_assoc _ _ _))⟩)) | (go_at_call 86; (with_reducible refine (impl_textOk.calls k1 ((rd_T74 l0_1 x8_1).f1) true _ A9.out).mono ?_); rintro e w' ⟨rfl, ⟨nd, rfl⟩⟩; (try first | exact ⟨rfl, _, World.drewN_drewN _ _ _⟩ | exact ⟨rfl, _, Eq.trans (World.drewN_drewN _ _ _) (congrArg (World.drewN _) (Nat.add_assoc _ _ _))⟩); have hcz23_0 : w20.cell? ⟨gb145, 0, none⟩ = some (.string a0_0) := (blk_cell BK145.out 0).trans rfl; have hcz23_1 : w20.cell? ⟨gb145, 1, none⟩ = some (.slice (some ad147) l0_1.length c0_1) := (blk_cell BK145.out 1).trans rfl; have hfz23_0 := blk_frozen BK145.out 0; have hfz23_1 := blk_frozen BK145.out 1; have p151 : 0 ≤ ((ji12) : Int) := of_decide_eq_true u1_; have q151 : (ji12) < (l0_1.length : Int) := of_decide_eq_true u1_; obtain ⟨ad151, e151, hx151_0, hx151_1⟩ := at_T74 HR0_1.out (ji12) p151 q151; obtain rfl : ad147 = ad151 := (by injection e151); have hn151_0 : ad147.block ≠ gb148 := Nat.ne_of_lt (Nat.lt_of_lt_of_le (by have := World.block_lt_of_cell? _ _ hx151_0; first | rwa [add_block] at this | exact this) GW148.out); have hn151_1 : ad147.block ≠ gb148 := Nat.ne_of_lt (Nat.lt_of_lt_of_le (by have := World.block_lt_of_cell? _ _ hx151_0; first | rwa [add_block] at this | exact this) GW148.out); replace hx151_0 := (HB.out.cell (World.block_lt_of_cell? w _ hx151_0)).trans hx151_0; replace hx151_1 := (HB.out.cell (World.block_lt_of_cell? w _ hx151_1)).trans hx151_1; replace hx151_0 := (cell_far (p := ⟨gb148, 0, none⟩) u48_ (.string ((rd_T74 l0_1 x8_1).f0))).trans hx151_0; replace hx151_1 := (cell_far (p := ⟨gb148, 0, none⟩) u48_ (.string ((rd_T74 l0_1 x8_1).f0))).trans hx151_1; replace hx151_0 := (cell_far (p := ⟨gb148, 1, none⟩) u49_ (.string ((rd_T74 l0_1 x8_1).f1))).trans hx151_0; replace hx151_1 := (cell_far (p := ⟨gb148, 1, none⟩) u49_ (.string ((rd_T74 l0_1 x8_1).f1))).trans hx151_1; (try have hy151_0 := fun (n_ : Nat) => (show ((((w20.drewN n_).setCell ⟨gb148, 0, none⟩ (.string ((rd_T74 l0_1 x8_1).f0))).setCell ⟨gb148, 1, none⟩ (.string ((rd_T74 l0_1 x8_1).f1)))).cell? _ = some _ from hx151_0)); (try have hy151_1 := fun (n_ : Nat) => (show ((((w20.drewN n_).setCell ⟨gb148, 0, none⟩ (.string ((rd_T74 l0_1 x8_1).f0))).setCell ⟨gb148, 1, none⟩ (.string ((rd_T74 l0_1 x8_1).f1)))).cell? _ = some _ from hx151_1)); clear hn151_0; clear hn151_1; replace p151 := eq_true p151; replace q151 := eq_true q151))
            repeat (go_quiet (first | ((with_reducible refine gate_dst (N := 4) rfl ?_); (try (refine gate_guard u67_ ?_; dsimp only)); refine box_event ?hg (N := 4) ?hd (cs := #[.string (⟨#[]⟩ : ByteArray), .string (⟨#[]⟩ : ByteArray)]) (t := 74) ?hr ?_; (case hd => rfl); (case hg => rfl); (case hr => first | (go_simp; done) | (go_simp; rfl)); intro gb148 hg w20 hbox hb; have n0_ := Aside0.mk (blk_below (g := gb145) (o := .cells #[.string a0_0, .slice (some ad147) l0_1.length c0_1] 37 (0, 0)) u10_ hb); have n1_ := Aside0.mk (below_step u6_ hb); have n2_ := Aside0.mk (hbox); have n3_ := Aside0.mk ((by rw [hg]; exact (below_size u6_) : w.heap.size ≤ gb148)); have n4_ := n3_; have n5_ := Aside0.mk ((by rw [hg]; exact Nat.ne_of_lt (blk_lt (g := gb145) (o := .cells #[.string a0_0, .slice (some ad147) l0_1.length c0_1] 37 (0, 0)) u10_) : gb145 ≠ gb148)); have n6_ := Aside0.mk ((by rw [hg]; exact Nat.ne_of_gt (blk_lt (g := gb145) (o := .cells #[.string a0_0, .slice (some ad147) l0_1.length c0_1] 37 (0, 0)) u10_) : gb148 ≠ gb145)); clear BK145; clear HB; have BK145 := n0_; have HB := n1_; have BK148 := n2_; have GW148 := n3_; have GE148 := n4_; have NB145_148 := n5_; have NB148_145 := n6_; clear n0_ n1_ n2_ n3_ n4_ n5_ n6_; clear hb hbox hg; have hnb21 := NB148_145.out; have hnc21 := NB145_148.out; have hcz22_0 : w20.cell? ⟨gb148, 0, none⟩ = some (.string (⟨#[]⟩ : ByteArray)) := (blk_cell BK148.out 0).trans rfl; have hcz22_1 : w20.cell? ⟨gb148, 1, none⟩ = some (.string (⟨#[]⟩ : ByteArray)) := (blk_cell BK148.out 1).trans rfl; have hfz22_0 := blk_frozen BK148.out 0; have hfz22_1 := blk_frozen BK148.out 1) | (go_at_call 44; (with_reducible refine (impl_NameOk.calls k1 ((rd_T74 l0_1 x8_1).f0) true _ A7.out).mono ?_); rintro e w' ⟨rfl, ⟨nd, rfl⟩⟩; (try first | exact ⟨rfl, _, World.drewN_drewN _ _ _⟩ | exact ⟨rfl, _, Eq.trans (World.drewN_drewN _ _ _) (congrArg (World.drewN _) (Nat.add_assoc _ _ _))⟩)) | (go_at_call 86; (with_reducible refine (impl_textOk.calls k1 ((rd_T74 l0_1 x8_1).f1) true _ A9.out).mono ?_); rintro e w' ⟨rfl, ⟨nd, rfl⟩⟩; (try first | exact ⟨rfl, _, World.drewN_drewN _ _ _⟩ | exact ⟨rfl, _, Eq.trans (World.drewN_drewN _ _ _) (congrArg (World.drewN _) (Nat.add_assoc _ _ _))⟩); have hcz23_0 : w20.cell? ⟨gb145, 0, none⟩ = some (.string a0_0) := (blk_cell BK145.out 0).trans rfl; have hcz23_1 : w20.cell? ⟨gb145, 1, none⟩ = some (.slice (some ad147) l0_1.length c0_1) := (blk_cell BK145.out 1).trans rfl; have hfz23_0 := blk_frozen BK145.out 0; have hfz23_1 := blk_frozen BK145.out 1; have p151 : 0 ≤ ((ji12) : Int) := of_decide_eq_true u1_; have q151 : (ji12) < (l0_1.length : Int) := of_decide_eq_true u1_; obtain ⟨ad151, e151, hx151_0, hx151_1⟩ := at_T74 HR0_1.out (ji12) p151 q151; obtain rfl : ad147 = ad151 := (by injection e151); have hn151_0 : ad147.block ≠ gb148 := Nat.ne_of_lt (Nat.lt_of_lt_of_le (by have := World.block_lt_of_cell? _ _ hx151_0; first | rwa [add_block] at this | exact this) GW148.out); have hn151_1 : ad147.block ≠ gb148 := Nat.ne_of_lt (Nat.lt_of_lt_of_le (by have := World.block_lt_of_cell? _ _ hx151_0; first | rwa [add_block] at this | exact this) GW148.out); replace hx151_0 := (HB.out.cell (World.block_lt_of_cell? w _ hx151_0)).trans hx151_0; replace hx151_1 := (HB.out.cell (World.block_lt_of_cell? w _ hx151_1)).trans hx151_1; replace hx151_0 := (cell_far (p := ⟨gb148, 0, none⟩) u48_ (.string ((rd_T74 l0_1 x8_1).f0))).trans hx151_0; replace hx151_1 := (cell_far (p := ⟨gb148, 0, none⟩) u48_ (.string ((rd_T74 l0_1 x8_1).f0))).trans hx151_1; replace hx151_0 := (cell_far (p := ⟨gb148, 1, none⟩) u49_ (.string ((rd_T74 l0_1 x8_1).f1))).trans hx151_0; replace hx151_1 := (cell_far (p := ⟨gb148, 1, none⟩) u49_ (.string ((rd_T74 l0_1 x8_1).f1))).trans hx151_1; (try have hy151_0 := fun (n_ : Nat) => (show ((((w20.drewN n_).setCell ⟨gb148, 0, none⟩ (.string ((rd_T74 l0_1 x8_1).f0))).setCell ⟨gb148, 1, none⟩ (.string ((rd_T74 l0_1 x8_1).f1)))).cell? _ = some _ from hx151_0)); (try have hy151_1 := fun (n_ : Nat) => (show ((((w20.drewN n_).setCell ⟨gb148, 0, none⟩ (.string ((rd_T74 l0_1 x8_1).f0))).setCell ⟨gb148, 1, none⟩ (.string ((rd_T74 l0_1 x8_1).f1)))).cell? _ = some _ from hx151_1)); clear hn151_0; clear hn151_1; replace p151 := eq_true p151; replace q151 := eq_true q151)); try go_wp2_with (first | ((with_reducible refine gate_dst (N := 4) rfl ?_); (try (refine gate_guard u67_ ?_; dsimp only)); refine box_event ?hg (N := 4) ?hd (cs := #[.string (⟨#[]⟩ : ByteArray), .string (⟨#[]⟩ : ByteArray)]) (t := 74) ?hr ?_; (case hd => rfl); (case hg => rfl); (case hr => first | (go_simp; done) | (go_simp; rfl)); intro gb148 hg w20 hbox hb; have n0_ := Aside0.mk (blk_below (g := gb145) (o := .cells #[.string a0_0, .slice (some ad147) l0_1.length c0_1] 37 (0, 0)) u10_ hb); have n1_ := Aside0.mk (below_step u6_ hb); have n2_ := Aside0.mk (hbox); have n3_ := Aside0.mk ((by rw [hg]; exact (below_size u6_) : w.heap.size ≤ gb148)); have n4_ := Aside0.mk ((by rw [hg]; exact (below_size u6_) : w.heap.size ≤ gb148)); have n5_ := Aside0.mk ((by rw [hg]; exact Nat.ne_of_lt (blk_lt (g := gb145) (o := .cells #[.string a0_0, .slice (some ad147) l0_1.length c0_1] 37 (0, 0)) u10_) : gb145 ≠ gb148)); have n6_ := Aside0.mk ((by rw [hg]; exact Nat.ne_of_gt (blk_lt (g := gb145) (o := .cells #[.string a0_0, .slice (some ad147) l0_1.length c0_1] 37 (0, 0)) u10_) : gb148 ≠ gb145)); clear BK145; clear HB; have BK145 := n0_; have HB := n1_; have BK148 := n2_; have GW148 := n3_; have GE148 := n4_; have NB145_148 := n5_; have NB148_145 := n6_; clear n0_ n1_ n2_ n3_ n4_ n5_ n6_; clear hb hbox hg; have hnb21 := NB148_145.out; have hnc21 := NB145_148.out; have hcz22_0 : w20.cell? ⟨gb148, 0, none⟩ = some (.string (⟨#[]⟩ : ByteArray)) := (blk_cell BK148.out 0).trans rfl; have hcz22_1 : w20.cell? ⟨gb148, 1, none⟩ = some (.string (⟨#[]⟩ : ByteArray)) := (blk_cell BK148.out 1).trans rfl; have hfz22_0 := blk_frozen BK148.out 0; have hfz22_1 := blk_frozen BK148.out 1) | (go_at_call 44; (with_reducible refine (impl_NameOk.calls k1 ((rd_T74 l0_1 x8_1).f0) true _ A7.out).mono ?_); rintro e w' ⟨rfl, ⟨nd, rfl⟩⟩; (try first | exact ⟨rfl, _, World.drewN_drewN _ _ _⟩ | exact ⟨rfl, _, Eq.trans (World.drewN_drewN _ _ _) (congrArg (World.drewN _) (Nat.add_assoc _ _ _))⟩)) | (go_at_call 86; (with_reducible refine (impl_textOk.calls k1 ((rd_T74 l0_1 x8_1).f1) true _ A9.out).mono ?_); rintro e w' ⟨rfl, ⟨nd, rfl⟩⟩; (try first | exact ⟨rfl, _, World.drewN_drewN _ _ _⟩ | exact ⟨rfl, _, Eq.trans (World.drewN_drewN _ _ _) (congrArg (World.drewN _) (Nat.add_assoc _ _ _))⟩); have hcz23_0 : w20.cell? ⟨gb145, 0, none⟩ = some (.string a0_0) := (blk_cell BK145.out 0).trans rfl; have hcz23_1 : w20.cell? ⟨gb145, 1, none⟩ = some (.slice (some ad147) l0_1.length c0_1) := (blk_cell BK145.out 1).trans rfl; have hfz23_0 := blk_frozen BK145.out 0; have hfz23_1 := blk_frozen BK145.out 1; have p151 : 0 ≤ ((ji12) : Int) := of_decide_eq_true u1_; have q151 : (ji12) < (l0_1.length : Int) := of_decide_eq_true u1_; obtain ⟨ad151, e151, hx151_0, hx151_1⟩ := at_T74 HR0_1.out (ji12) p151 q151; obtain rfl : ad147 = ad151 := (by injection e151); have hn151_0 : ad147.block ≠ gb148 := Nat.ne_of_lt (Nat.lt_of_lt_of_le (by have := World.block_lt_of_cell? _ _ hx151_0; first | rwa [add_block] at this | exact this) GW148.out); have hn151_1 : ad147.block ≠ gb148 := Nat.ne_of_lt (Nat.lt_of_lt_of_le (by have := World.block_lt_of_cell? _ _ hx151_0; first | rwa [add_block] at this | exact this) GW148.out); replace hx151_0 := (HB.out.cell (World.block_lt_of_cell? w _ hx151_0)).trans hx151_0; replace hx151_1 := (HB.out.cell (World.block_lt_of_cell? w _ hx151_1)).trans hx151_1; replace hx151_0 := (cell_far (p := ⟨gb148, 0, none⟩) u48_ (.string ((rd_T74 l0_1 x8_1).f0))).trans hx151_0; replace hx151_1 := (cell_far (p := ⟨gb148, 0, none⟩) u48_ (.string ((rd_T74 l0_1 x8_1).f0))).trans hx151_1; replace hx151_0 := (cell_far (p := ⟨gb148, 1, none⟩) u49_ (.string ((rd_T74 l0_1 x8_1).f1))).trans hx151_0; replace hx151_1 := (cell_far (p := ⟨gb148, 1, none⟩) u49_ (.string ((rd_T74 l0_1 x8_1).f1))).trans hx151_1; (try have hy151_0 := fun (n_ : Nat) => (show ((((w20.drewN n_).setCell ⟨gb148, 0, none⟩ (.string ((rd_T74 l0_1 x8_1).f0))).setCell ⟨gb148, 1, none⟩ (.string ((rd_T74 l0_1 x8_1).f1)))).cell? _ = some _ from hx151_0)); (try have hy151_1 := fun (n_ : Nat) => (show ((((w20.drewN n_).setCell ⟨gb148, 0, none⟩ (.string ((rd_T74 l0_1 x8_1).f0))).setCell ⟨gb148, 1, none⟩ (.string ((rd_T74 l0_1 x8_1).f1)))).cell? _ = some _ from hx151_1)); clear hn151_0; clear hn151_1; replace p151 := eq_true p151; replace q151 := eq_true q151)))
            go_ret
            exact ⟨by first | rfl | (simp [errW_none, errW_some] <;> rfl) | (simp only [← hji12]; first | rfl | (simp [errW_none, errW_some] <;> rfl)) | (simp [*, errW_none, errW_some] <;> rfl) | (simp; exact isEmpty_bne _), u74_⟩
          ·rw [if_neg c14] at H
           exact absurd H u89_
         ·rw [if_neg c13] at H
          exact absurd H u89_
        ·rw [if_neg c11] at H
         have c11b0 : decide (0 < x8_1) = false := decide_eq_false c11
         clear c11
         have H' := Aside0.mk H
         clear H
         have p147 : 0 ≤ (x8_1 : Int) := of_decide_eq_true u1_
         have q147 : x8_1 < (l0_1.length : Int) := of_decide_eq_true u1_
         obtain ⟨ad147, e147, hx147_0, hx147_1⟩ := at_T74 HR0_1.out x8_1 p147 q147
         cases e147
         replace hx147_0 := (HB.out.cell (World.block_lt_of_cell? w _ hx147_0)).trans hx147_0
         replace hx147_1 := (HB.out.cell (World.block_lt_of_cell? w _ hx147_1)).trans hx147_1
         replace p147 := eq_true p147
         replace q147 := eq_true q147
         go_wp2_with (first | ((with_reducible refine gate_dst (N := 4) rfl ?_); (try (refine gate_guard u67_ ?_; dsimp only)); refine box_event ?hg (N := 4) ?hd (cs := #[.string (⟨#[]⟩ : ByteArray), .string (⟨#[]⟩ : ByteArray)]) (t := 74) ?hr ?_; (case hd => rfl); (case hg => rfl); (case hr => first | (go_simp; done) | (go_simp; rfl)); intro gb148 hg w24 hbox hb; have n0_ := Aside0.mk (blk_below (g := gb145) (o := .cells #[.string a0_0, .slice (some ad147) l0_1.length c0_1] 37 (0, 0)) u10_ hb); have n1_ := Aside0.mk (below_step u6_ hb); have n2_ := Aside0.mk (hbox); have n3_ := Aside0.mk ((by rw [hg]; exact (below_size u6_) : w.heap.size ≤ gb148)); have n4_ := n3_; have n5_ := Aside0.mk ((by rw [hg]; exact Nat.ne_of_lt (blk_lt (g := gb145) (o := .cells #[.string a0_0, .slice (some ad147) l0_1.length c0_1] 37 (0, 0)) u10_) : gb145 ≠ gb148)); have n6_ := Aside0.mk ((by rw [hg]; exact Nat.ne_of_gt (blk_lt (g := gb145) (o := .cells #[.string a0_0, .slice (some ad147) l0_1.length c0_1] 37 (0, 0)) u10_) : gb148 ≠ gb145)); clear BK145; clear HB; have BK145 := n0_; have HB := n1_; have BK148 := n2_; have GW148 := n3_; have GE148 := n4_; have NB145_148 := n5_; have NB148_145 := n6_; clear n0_ n1_ n2_ n3_ n4_ n5_ n6_; clear hb hbox hg; have hnb25 := NB148_145.out; have hnc25 := NB145_148.out; have hcz26_0 : w24.cell? ⟨gb148, 0, none⟩ = some (.string (⟨#[]⟩ : ByteArray)) := (blk_cell BK148.out 0).trans rfl; have hcz26_1 : w24.cell? ⟨gb148, 1, none⟩ = some (.string (⟨#[]⟩ : ByteArray)) := (blk_cell BK148.out 1).trans rfl; have hfz26_0 := blk_frozen BK148.out 0; have hfz26_1 := blk_frozen BK148.out 1) | (go_at_call 44; (with_reducible refine (impl_NameOk.calls k1 ((rd_T74 l0_1 x8_1).f0) true _ A7.out).mono ?_); rintro e w' ⟨rfl, ⟨nd, rfl⟩⟩; (try first | exact ⟨rfl, _, World.drewN_drewN _ _ _⟩ | exact ⟨rfl, _, Eq.trans (World.drewN_drewN _ _ _) (congrArg (World.drewN _) (Nat.add_assoc _ _ _))⟩)) | (go_at_call 86; (with_reducible refine (impl_textOk.calls k1 ((rd_T74 l0_1 x8_1).f1) true _ A9.out).mono ?_); rintro e w' ⟨rfl, ⟨nd, rfl⟩⟩; (try first | exact ⟨rfl, _, World.drewN_drewN _ _ _⟩ | exact ⟨rfl, _, Eq.trans (World.drewN_drewN _ _ _) (congrArg (World.drewN _) (Nat.add_assoc _ _ _))⟩)))
         repeat (go_quiet (first | ((with_reducible refine gate_dst (N := 4) rfl ?_); (try (refine gate_guard u67_ ?_; dsimp only)); refine box_event ?hg (N := 4) ?hd (cs := #[.string (⟨#[]⟩ : ByteArray), .string (⟨#[]⟩ : ByteArray)]) (t := 74) ?hr ?_; (case hd => rfl); (case hg => rfl); (case hr => first | (go_simp; done) | (go_simp; rfl)); intro gb148 hg w24 hbox hb; have n0_ := Aside0.mk (blk_below (g := gb145) (o := .cells #[.string a0_0, .slice (some ad147) l0_1.length c0_1] 37 (0, 0)) u10_ hb); have n1_ := Aside0.mk (below_step u6_ hb); have n2_ := Aside0.mk (hbox); have n3_ := Aside0.mk ((by rw [hg]; exact (below_size u6_) : w.heap.size ≤ gb148)); have n4_ := n3_; have n5_ := Aside0.mk ((by rw [hg]; exact Nat.ne_of_lt (blk_lt (g := gb145) (o := .cells #[.string a0_0, .slice (some ad147) l0_1.length c0_1] 37 (0, 0)) u10_) : gb145 ≠ gb148)); have n6_ := Aside0.mk ((by rw [hg]; exact Nat.ne_of_gt (blk_lt (g := gb145) (o := .cells #[.string a0_0, .slice (some ad147) l0_1.length c0_1] 37 (0, 0)) u10_) : gb148 ≠ gb145)); clear BK145; clear HB; have BK145 := n0_; have HB := n1_; have BK148 := n2_; have GW148 := n3_; have GE148 := n4_; have NB145_148 := n5_; have NB148_145 := n6_; clear n0_ n1_ n2_ n3_ n4_ n5_ n6_; clear hb hbox hg; have hnb25 := NB148_145.out; have hnc25 := NB145_148.out; have hcz26_0 : w24.cell? ⟨gb148, 0, none⟩ = some (.string (⟨#[]⟩ : ByteArray)) := (blk_cell BK148.out 0).trans rfl; have hcz26_1 : w24.cell? ⟨gb148, 1, none⟩ = some (.string (⟨#[]⟩ : ByteArray)) := (blk_cell BK148.out 1).trans rfl; have hfz26_0 := blk_frozen BK148.out 0; have hfz26_1 := blk_frozen BK148.out 1) | (go_at_call 44; (with_reducible refine (impl_NameOk.calls k1 ((rd_T74 l0_1 x8_1).f0) true _ A7.out).mono ?_); rintro e w' ⟨rfl, ⟨nd, rfl⟩⟩; (try first | exact ⟨rfl, _, World.drewN_drewN _ _ _⟩ | exact ⟨rfl, _, Eq.trans (World.drewN_drewN _ _ _) (congrArg (World.drewN _) (Nat.add_assoc _ _ _))⟩)) | (go_at_call 86; (with_reducible refine (impl_textOk.calls k1 ((rd_T74 l0_1 x8_1).f1) true _ A9.out).mono ?_); rintro e w' ⟨rfl, ⟨nd, rfl⟩⟩; (try first | exact ⟨rfl, _, World.drewN_drewN _ _ _⟩ | exact ⟨rfl, _, Eq.trans (World.drewN_drewN _ _ _) (congrArg (World.drewN _) (Nat.add_assoc _ _ _))⟩))); try go_wp2_with (first | ((with_reducible refine gate_dst (N := 4) rfl ?_); (try (refine gate_guard u67_ ?_; dsimp only)); refine box_event ?hg (N := 4) ?hd (cs := #[.string (⟨#[]⟩ : ByteArray), .string (⟨#[]⟩ : ByteArray)]) (t := 74) ?hr ?_; (case hd => rfl); (case hg => rfl); (case hr => first | (go_simp; done) | (go_simp; rfl)); intro gb148 hg w24 hbox hb; have n0_ := Aside0.mk (blk_below (g := gb145) (o := .cells #[.string a0_0, .slice (some ad147) l0_1.length c0_1] 37 (0, 0)) u10_ hb); have n1_ := Aside0.mk (below_step u6_ hb); have n2_ := Aside0.mk (hbox); have n3_ := Aside0.mk ((by rw [hg]; exact (below_size u6_) : w.heap.size ≤ gb148)); have n4_ := Aside0.mk ((by rw [hg]; exact (below_size u6_) : w.heap.size ≤ gb148)); have n5_ := Aside0.mk ((by rw [hg]; exact Nat.ne_of_lt (blk_lt (g := gb145) (o := .cells #[.string a0_0, .slice (some ad147) l0_1.length c0_1] 37 (0, 0)) u10_) : gb145 ≠ gb148)); have n6_ := Aside0.mk ((by rw [hg]; exact Nat.ne_of_gt (blk_lt (g := gb145) (o := .cells #[.string a0_0, .slice (some ad147) l0_1.length c0_1] 37 (0, 0)) u10_) : gb148 ≠ gb145)); clear BK145; clear HB; have BK145 := n0_; have HB := n1_; have BK148 := n2_; have GW148 := n3_; have GE148 := n4_; have NB145_148 := n5_; have NB148_145 := n6_; clear n0_ n1_ n2_ n3_ n4_ n5_ n6_; clear hb hbox hg; have hnb25 := NB148_145.out; have hnc25 := NB145_148.out; have hcz26_0 : w24.cell? ⟨gb148, 0, none⟩ = some (.string (⟨#[]⟩ : ByteArray)) := (blk_cell BK148.out 0).trans rfl; have hcz26_1 : w24.cell? ⟨gb148, 1, none⟩ = some (.string (⟨#[]⟩ : ByteArray)) := (blk_cell BK148.out 1).trans rfl; have hfz26_0 := blk_frozen BK148.out 0; have hfz26_1 := blk_frozen BK148.out 1) | (go_at_call 44; (with_reducible refine (impl_NameOk.calls k1 ((rd_T74 l0_1 x8_1).f0) true _ A7.out).mono ?_); rintro e w' ⟨rfl, ⟨nd, rfl⟩⟩; (try first | exact ⟨rfl, _, World.drewN_drewN _ _ _⟩ | exact ⟨rfl, _, Eq.trans (World.drewN_drewN _ _ _) (congrArg (World.drewN _) (Nat.add_assoc _ _ _))⟩)) | (go_at_call 86; (with_reducible refine (impl_textOk.calls k1 ((rd_T74 l0_1 x8_1).f1) true _ A9.out).mono ?_); rintro e w' ⟨rfl, ⟨nd, rfl⟩⟩; (try first | exact ⟨rfl, _, World.drewN_drewN _ _ _⟩ | exact ⟨rfl, _, Eq.trans (World.drewN_drewN _ _ _) (congrArg (World.drewN _) (Nat.add_assoc _ _ _))⟩))))
         go_roundg k1
         case measure => have := HK1.out; omega
         case rel => exact ⟨(wrap64 (x8_1 + 1)), u22_, H', ⟨u102_⟩, ⟨u103_⟩, ⟨u74_⟩⟩
       ·replace c10 := Bool.eq_false_iff.mpr c10
        subst c10
        have H1 : (some false) = some r := by rw [if_neg (show ¬ (false = true) by decide)] at H; exact H
        clear H
        have H := H1
        clear H1
        obtain rfl := Option.some.inj H
        have p147 : 0 ≤ (x8_1 : Int) := of_decide_eq_true u1_
        have q147 : x8_1 < (l0_1.length : Int) := of_decide_eq_true u1_
        obtain ⟨ad147, e147, hx147_0, hx147_1⟩ := at_T74 HR0_1.out x8_1 p147 q147
        cases e147
        replace hx147_0 := (HB.out.cell (World.block_lt_of_cell? w _ hx147_0)).trans hx147_0
        replace hx147_1 := (HB.out.cell (World.block_lt_of_cell? w _ hx147_1)).trans hx147_1
        replace p147 := eq_true p147
        replace q147 := eq_true q147
        go_wp2_with (first | ((with_reducible refine gate_dst (N := 4) rfl ?_); (try (refine gate_guard u67_ ?_; dsimp only)); refine box_event ?hg (N := 4) ?hd (cs := #[.string (⟨#[]⟩ : ByteArray), .string (⟨#[]⟩ : ByteArray)]) (t := 74) ?hr ?_; (case hd => rfl); (case hg => rfl); (case hr => first | (go_simp; done) | (go_simp; rfl)); intro gb148 hg w27 hbox hb; have n0_ := Aside0.mk (blk_below (g := gb145) (o := .cells #[.string a0_0, .slice (some ad147) l0_1.length c0_1] 37 (0, 0)) u10_ hb); have n1_ := Aside0.mk (below_step u6_ hb); have n2_ := Aside0.mk (hbox); have n3_ := Aside0.mk ((by rw [hg]; exact (below_size u6_) : w.heap.size ≤ gb148)); have n4_ := n3_; have n5_ := Aside0.mk ((by rw [hg]; exact Nat.ne_of_lt (blk_lt (g := gb145) (o := .cells #[.string a0_0, .slice (some ad147) l0_1.length c0_1] 37 (0, 0)) u10_) : gb145 ≠ gb148)); have n6_ := Aside0.mk ((by rw [hg]; exact Nat.ne_of_gt (blk_lt (g := gb145) (o := .cells #[.string a0_0, .slice (some ad147) l0_1.length c0_1] 37 (0, 0)) u10_) : gb148 ≠ gb145)); clear BK145; clear HB; have BK145 := n0_; have HB := n1_; have BK148 := n2_; have GW148 := n3_; have GE148 := n4_; have NB145_148 := n5_; have NB148_145 := n6_; clear n0_ n1_ n2_ n3_ n4_ n5_ n6_; clear hb hbox hg; have hnb28 := NB148_145.out; have hnc28 := NB145_148.out; have hcz29_0 : w27.cell? ⟨gb148, 0, none⟩ = some (.string (⟨#[]⟩ : ByteArray)) := (blk_cell BK148.out 0).trans rfl; have hcz29_1 : w27.cell? ⟨gb148, 1, none⟩ = some (.string (⟨#[]⟩ : ByteArray)) := (blk_cell BK148.out 1).trans rfl; have hfz29_0 := blk_frozen BK148.out 0; have hfz29_1 := blk_frozen BK148.out 1) | (go_at_call 44; (with_reducible refine (impl_NameOk.calls k1 ((rd_T74 l0_1 x8_1).f0) true _ A7.out).mono ?_); rintro e w' ⟨rfl, ⟨nd, rfl⟩⟩; (try first | exact ⟨rfl, _, World.drewN_drewN _ _ _⟩ | exact ⟨rfl, _, Eq.trans (World.drewN_drewN _ _ _) (congrArg (World.drewN _) (Nat.add_assoc _ _ _))⟩)) | (go_at_call 86; (with_reducible refine (impl_textOk.calls k1 ((rd_T74 l0_1 x8_1).f1) false _ A9.out).mono ?_); rintro e w' ⟨rfl, ⟨nd, rfl⟩⟩; (try first | exact ⟨rfl, _, World.drewN_drewN _ _ _⟩ | exact ⟨rfl, _, Eq.trans (World.drewN_drewN _ _ _) (congrArg (World.drewN _) (Nat.add_assoc _ _ _))⟩)))
        repeat (go_quiet (first | ((with_reducible refine gate_dst (N := 4) rfl ?_); (try (refine gate_guard u67_ ?_; dsimp only)); refine box_event ?hg (N := 4) ?hd (cs := #[.string (⟨#[]⟩ : ByteArray), .string (⟨#[]⟩ : ByteArray)]) (t := 74) ?hr ?_; (case hd => rfl); (case hg => rfl); (case hr => first | (go_simp; done) | (go_simp; rfl)); intro gb148 hg w27 hbox hb; have n0_ := Aside0.mk (blk_below (g := gb145) (o := .cells #[.string a0_0, .slice (some ad147) l0_1.length c0_1] 37 (0, 0)) u10_ hb); have n1_ := Aside0.mk (below_step u6_ hb); have n2_ := Aside0.mk (hbox); have n3_ := Aside0.mk ((by rw [hg]; exact (below_size u6_) : w.heap.size ≤ gb148)); have n4_ := n3_; have n5_ := Aside0.mk ((by rw [hg]; exact Nat.ne_of_lt (blk_lt (g := gb145) (o := .cells #[.string a0_0, .slice (some ad147) l0_1.length c0_1] 37 (0, 0)) u10_) : gb145 ≠ gb148)); have n6_ := Aside0.mk ((by rw [hg]; exact Nat.ne_of_gt (blk_lt (g := gb145) (o := .cells #[.string a0_0, .slice (some ad147) l0_1.length c0_1] 37 (0, 0)) u10_) : gb148 ≠ gb145)); clear BK145; clear HB; have BK145 := n0_; have HB := n1_; have BK148 := n2_; have GW148 := n3_; have GE148 := n4_; have NB145_148 := n5_; have NB148_145 := n6_; clear n0_ n1_ n2_ n3_ n4_ n5_ n6_; clear hb hbox hg; have hnb28 := NB148_145.out; have hnc28 := NB145_148.out; have hcz29_0 : w27.cell? ⟨gb148, 0, none⟩ = some (.string (⟨#[]⟩ : ByteArray)) := (blk_cell BK148.out 0).trans rfl; have hcz29_1 : w27.cell? ⟨gb148, 1, none⟩ = some (.string (⟨#[]⟩ : ByteArray)) := (blk_cell BK148.out 1).trans rfl; have hfz29_0 := blk_frozen BK148.out 0; have hfz29_1 := blk_frozen BK148.out 1) | (go_at_call 44; (with_reducible refine (impl_NameOk.calls k1 ((rd_T74 l0_1 x8_1).f0) true _ A7.out).mono ?_); rintro e w' ⟨rfl, ⟨nd, rfl⟩⟩; (try first | exact ⟨rfl, _, World.drewN_drewN _ _ _⟩ | exact ⟨rfl, _, Eq.trans (World.drewN_drewN _ _ _) (congrArg (World.drewN _) (Nat.add_assoc _ _ _))⟩)) | (go_at_call 86; (with_reducible refine (impl_textOk.calls k1 ((rd_T74 l0_1 x8_1).f1) false _ A9.out).mono ?_); rintro e w' ⟨rfl, ⟨nd, rfl⟩⟩; (try first | exact ⟨rfl, _, World.drewN_drewN _ _ _⟩ | exact ⟨rfl, _, Eq.trans (World.drewN_drewN _ _ _) (congrArg (World.drewN _) (Nat.add_assoc _ _ _))⟩))); try go_wp2_with (first | ((with_reducible refine gate_dst (N := 4) rfl ?_); (try (refine gate_guard u67_ ?_; dsimp only)); refine box_event ?hg (N := 4) ?hd (cs := #[.string (⟨#[]⟩ : ByteArray), .string (⟨#[]⟩ : ByteArray)]) (t := 74) ?hr ?_; (case hd => rfl); (case hg => rfl); (case hr => first | (go_simp; done) | (go_simp; rfl)); intro gb148 hg w27 hbox hb; have n0_ := Aside0.mk (blk_below (g := gb145) (o := .cells #[.string a0_0, .slice (some ad147) l0_1.length c0_1] 37 (0, 0)) u10_ hb); have n1_ := Aside0.mk (below_step u6_ hb); have n2_ := Aside0.mk (hbox); have n3_ := Aside0.mk ((by rw [hg]; exact (below_size u6_) : w.heap.size ≤ gb148)); have n4_ := Aside0.mk ((by rw [hg]; exact (below_size u6_) : w.heap.size ≤ gb148)); have n5_ := Aside0.mk ((by rw [hg]; exact Nat.ne_of_lt (blk_lt (g := gb145) (o := .cells #[.string a0_0, .slice (some ad147) l0_1.length c0_1] 37 (0, 0)) u10_) : gb145 ≠ gb148)); have n6_ := Aside0.mk ((by rw [hg]; exact Nat.ne_of_gt (blk_lt (g := gb145) (o := .cells #[.string a0_0, .slice (some ad147) l0_1.length c0_1] 37 (0, 0)) u10_) : gb148 ≠ gb145)); clear BK145; clear HB; have BK145 := n0_; have HB := n1_; have BK148 := n2_; have GW148 := n3_; have GE148 := n4_; have NB145_148 := n5_; have NB148_145 := n6_; clear n0_ n1_ n2_ n3_ n4_ n5_ n6_; clear hb hbox hg; have hnb28 := NB148_145.out; have hnc28 := NB145_148.out; have hcz29_0 : w27.cell? ⟨gb148, 0, none⟩ = some (.string (⟨#[]⟩ : ByteArray)) := (blk_cell BK148.out 0).trans rfl; have hcz29_1 : w27.cell? ⟨gb148, 1, none⟩ = some (.string (⟨#[]⟩ : ByteArray)) := (blk_cell BK148.out 1).trans rfl; have hfz29_0 := blk_frozen BK148.out 0; have hfz29_1 := blk_frozen BK148.out 1) | (go_at_call 44; (with_reducible refine (impl_NameOk.calls k1 ((rd_T74 l0_1 x8_1).f0) true _ A7.out).mono ?_); rintro e w' ⟨rfl, ⟨nd, rfl⟩⟩; (try first | exact ⟨rfl, _, World.drewN_drewN _ _ _⟩ | exact ⟨rfl, _, Eq.trans (World.drewN_drewN _ _ _) (congrArg (World.drewN _) (Nat.add_assoc _ _ _))⟩)) | (go_at_call 86; (with_reducible refine (impl_textOk.calls k1 ((rd_T74 l0_1 x8_1).f1) false _ A9.out).mono ?_); rintro e w' ⟨rfl, ⟨nd, rfl⟩⟩; (try first | exact ⟨rfl, _, World.drewN_drewN _ _ _⟩ | exact ⟨rfl, _, Eq.trans (World.drewN_drewN _ _ _) (congrArg (World.drewN _) (Nat.add_assoc _ _ _))⟩))))
        go_ret
        exact ⟨u7_, u74_⟩
      ·replace c8 := Bool.eq_false_iff.mpr c8
       subst c8
       have H1 : (some false) = some r := by rw [if_neg (show ¬ (false = true) by decide)] at H; exact H
       clear H
       have H := H1
       clear H1
       obtain rfl := Option.some.inj H
       have p147 : 0 ≤ (x8_1 : Int) := of_decide_eq_true u1_
       have q147 : x8_1 < (l0_1.length : Int) := of_decide_eq_true u1_
       obtain ⟨ad147, e147, hx147_0, hx147_1⟩ := at_T74 HR0_1.out x8_1 p147 q147
       cases e147
       replace hx147_0 := (HB.out.cell (World.block_lt_of_cell? w _ hx147_0)).trans hx147_0
       replace hx147_1 := (HB.out.cell (World.block_lt_of_cell? w _ hx147_1)).trans hx147_1
       replace p147 := eq_true p147
       replace q147 := eq_true q147
       go_wp2_with (first | ((with_reducible refine gate_dst (N := 4) rfl ?_); (try (refine gate_guard u67_ ?_; dsimp only)); refine box_event ?hg (N := 4) ?hd (cs := #[.string (⟨#[]⟩ : ByteArray), .string (⟨#[]⟩ : ByteArray)]) (t := 74) ?hr ?_; (case hd => rfl); (case hg => rfl); (case hr => first | (go_simp; done) | (go_simp; rfl)); intro gb148 hg w30 hbox hb; have n0_ := Aside0.mk (blk_below (g := gb145) (o := .cells #[.string a0_0, .slice (some ad147) l0_1.length c0_1] 37 (0, 0)) u10_ hb); have n1_ := Aside0.mk (below_step u6_ hb); have n2_ := Aside0.mk (hbox); have n3_ := Aside0.mk ((by rw [hg]; exact (below_size u6_) : w.heap.size ≤ gb148)); have n4_ := n3_; have n5_ := Aside0.mk ((by rw [hg]; exact Nat.ne_of_lt (blk_lt (g := gb145) (o := .cells #[.string a0_0, .slice (some ad147) l0_1.length c0_1] 37 (0, 0)) u10_) : gb145 ≠ gb148)); have n6_ := Aside0.mk ((by rw [hg]; exact Nat.ne_of_gt (blk_lt (g := gb145) (o := .cells #[.string a0_0, .slice (some ad147) l0_1.length c0_1] 37 (0, 0)) u10_) : gb148 ≠ gb145)); clear BK145; clear HB; have BK145 := n0_; have HB := n1_; have BK148 := n2_; have GW148 := n3_; have GE148 := n4_; have NB145_148 := n5_; have NB148_145 := n6_; clear n0_ n1_ n2_ n3_ n4_ n5_ n6_; clear hb hbox hg; have hnb31 := NB148_145.out; have hnc31 := NB145_148.out; have hcz32_0 : w30.cell? ⟨gb148, 0, none⟩ = some (.string (⟨#[]⟩ : ByteArray)) := (blk_cell BK148.out 0).trans rfl; have hcz32_1 : w30.cell? ⟨gb148, 1, none⟩ = some (.string (⟨#[]⟩ : ByteArray)) := (blk_cell BK148.out 1).trans rfl; have hfz32_0 := blk_frozen BK148.out 0; have hfz32_1 := blk_frozen BK148.out 1) | (go_at_call 44; (with_reducible refine (impl_NameOk.calls k1 ((rd_T74 l0_1 x8_1).f0) false _ A7.out).mono ?_); rintro e w' ⟨rfl, ⟨nd, rfl⟩⟩; (try first | exact ⟨rfl, _, World.drewN_drewN _ _ _⟩ | exact ⟨rfl, _, Eq.trans (World.drewN_drewN _ _ _) (congrArg (World.drewN _) (Nat.add_assoc _ _ _))⟩)))
       repeat (go_quiet (first | ((with_reducible refine gate_dst (N := 4) rfl ?_); (try (refine gate_guard u67_ ?_; dsimp only)); refine box_event ?hg (N := 4) ?hd (cs := #[.string (⟨#[]⟩ : ByteArray), .string (⟨#[]⟩ : ByteArray)]) (t := 74) ?hr ?_; (case hd => rfl); (case hg => rfl); (case hr => first | (go_simp; done) | (go_simp; rfl)); intro gb148 hg w30 hbox hb; have n0_ := Aside0.mk (blk_below (g := gb145) (o := .cells #[.string a0_0, .slice (some ad147) l0_1.length c0_1] 37 (0, 0)) u10_ hb); have n1_ := Aside0.mk (below_step u6_ hb); have n2_ := Aside0.mk (hbox); have n3_ := Aside0.mk ((by rw [hg]; exact (below_size u6_) : w.heap.size ≤ gb148)); have n4_ := n3_; have n5_ := Aside0.mk ((by rw [hg]; exact Nat.ne_of_lt (blk_lt (g := gb145) (o := .cells #[.string a0_0, .slice (some ad147) l0_1.length c0_1] 37 (0, 0)) u10_) : gb145 ≠ gb148)); have n6_ := Aside0.mk ((by rw [hg]; exact Nat.ne_of_gt (blk_lt (g := gb145) (o := .cells #[.string a0_0, .slice (some ad147) l0_1.length c0_1] 37 (0, 0)) u10_) : gb148 ≠ gb145)); clear BK145; clear HB; have BK145 := n0_; have HB := n1_; have BK148 := n2_; have GW148 := n3_; have GE148 := n4_; have NB145_148 := n5_; have NB148_145 := n6_; clear n0_ n1_ n2_ n3_ n4_ n5_ n6_; clear hb hbox hg; have hnb31 := NB148_145.out; have hnc31 := NB145_148.out; have hcz32_0 : w30.cell? ⟨gb148, 0, none⟩ = some (.string (⟨#[]⟩ : ByteArray)) := (blk_cell BK148.out 0).trans rfl; have hcz32_1 : w30.cell? ⟨gb148, 1, none⟩ = some (.string (⟨#[]⟩ : ByteArray)) := (blk_cell BK148.out 1).trans rfl; have hfz32_0 := blk_frozen BK148.out 0; have hfz32_1 := blk_frozen BK148.out 1) | (go_at_call 44; (with_reducible refine (impl_NameOk.calls k1 ((rd_T74 l0_1 x8_1).f0) false _ A7.out).mono ?_); rintro e w' ⟨rfl, ⟨nd, rfl⟩⟩; (try first | exact ⟨rfl, _, World.drewN_drewN _ _ _⟩ | exact ⟨rfl, _, Eq.trans (World.drewN_drewN _ _ _) (congrArg (World.drewN _) (Nat.add_assoc _ _ _))⟩))); try go_wp2_with (first | ((with_reducible refine gate_dst (N := 4) rfl ?_); (try (refine gate_guard u67_ ?_; dsimp only)); refine box_event ?hg (N := 4) ?hd (cs := #[.string (⟨#[]⟩ : ByteArray), .string (⟨#[]⟩ : ByteArray)]) (t := 74) ?hr ?_; (case hd => rfl); (case hg => rfl); (case hr => first | (go_simp; done) | (go_simp; rfl)); intro gb148 hg w30 hbox hb; have n0_ := Aside0.mk (blk_below (g := gb145) (o := .cells #[.string a0_0, .slice (some ad147) l0_1.length c0_1] 37 (0, 0)) u10_ hb); have n1_ := Aside0.mk (below_step u6_ hb); have n2_ := Aside0.mk (hbox); have n3_ := Aside0.mk ((by rw [hg]; exact (below_size u6_) : w.heap.size ≤ gb148)); have n4_ := Aside0.mk ((by rw [hg]; exact (below_size u6_) : w.heap.size ≤ gb148)); have n5_ := Aside0.mk ((by rw [hg]; exact Nat.ne_of_lt (blk_lt (g := gb145) (o := .cells #[.string a0_0, .slice (some ad147) l0_1.length c0_1] 37 (0, 0)) u10_) : gb145 ≠ gb148)); have n6_ := Aside0.mk ((by rw [hg]; exact Nat.ne_of_gt (blk_lt (g := gb145) (o := .cells #[.string a0_0, .slice (some ad147) l0_1.length c0_1] 37 (0, 0)) u10_) : gb148 ≠ gb145)); clear BK145; clear HB; have BK145 := n0_; have HB := n1_; have BK148 := n2_; have GW148 := n3_; have GE148 := n4_; have NB145_148 := n5_; have NB148_145 := n6_; clear n0_ n1_ n2_ n3_ n4_ n5_ n6_; clear hb hbox hg; have hnb31 := NB148_145.out; have hnc31 := NB145_148.out; have hcz32_0 : w30.cell? ⟨gb148, 0, none⟩ = some (.string (⟨#[]⟩ : ByteArray)) := (blk_cell BK148.out 0).trans rfl; have hcz32_1 : w30.cell? ⟨gb148, 1, none⟩ = some (.string (⟨#[]⟩ : ByteArray)) := (blk_cell BK148.out 1).trans rfl; have hfz32_0 := blk_frozen BK148.out 0; have hfz32_1 := blk_frozen BK148.out 1) | (go_at_call 44; (with_reducible refine (impl_NameOk.calls k1 ((rd_T74 l0_1 x8_1).f0) false _ A7.out).mono ?_); rintro e w' ⟨rfl, ⟨nd, rfl⟩⟩; (try first | exact ⟨rfl, _, World.drewN_drewN _ _ _⟩ | exact ⟨rfl, _, Eq.trans (World.drewN_drewN _ _ _) (congrArg (World.drewN _) (Nat.add_assoc _ _ _))⟩))))
       go_ret
       exact ⟨u7_, u74_⟩
     ·rw [if_neg c6] at H
      exact absurd H u89_
    ·rw [if_neg c5] at H
     exact absurd H u89_
   ·rw [if_neg c4] at H
    have c4b0 : decide (x8_1 < (l0_1.length : Int)) = false := decide_eq_false c4
    clear c4
    replace H := Option.bind_eq_some_iff.mp H
    obtain ⟨t146, A330, H⟩ := H
    replace H : (if t146 = true then (some (decide ((l0_1.length : Int) ≤ 4))) else (some false)) = some r := H
    have A33 := Aside0.mk A330
    clear A330
    by_cases c34 : t146 = true
    ·subst c34
     have H1 : (some (decide ((l0_1.length : Int) ≤ 4))) = some r := by rw [if_pos rfl] at H; exact H
     clear H
     have H := H1
     clear H1
     obtain rfl := Option.some.inj H
     have hcz35_0 : wr.cell? ⟨gb145, 0, none⟩ = some (.string a0_0) := (blk_cell BK145.out 0).trans rfl
     have hcz35_1 : wr.cell? ⟨gb145, 1, none⟩ = some (.slice A0_1 l0_1.length c0_1) := (blk_cell BK145.out 1).trans rfl
     have hfz35_0 := blk_frozen BK145.out 0
     have hfz35_1 := blk_frozen BK145.out 1
     go_wp2_with (first | (go_at_call 44; (with_reducible refine (impl_NameOk.calls k1 a0_0 true _ A33.out).mono ?_); rintro e w' ⟨rfl, ⟨nd, rfl⟩⟩; (try first | exact ⟨rfl, _, World.drewN_drewN _ _ _⟩ | exact ⟨rfl, _, Eq.trans (World.drewN_drewN _ _ _) (congrArg (World.drewN _) (Nat.add_assoc _ _ _))⟩)))
     repeat (go_quiet (first | (go_at_call 44; (with_reducible refine (impl_NameOk.calls k1 a0_0 true _ A33.out).mono ?_); rintro e w' ⟨rfl, ⟨nd, rfl⟩⟩; (try first | exact ⟨rfl, _, World.drewN_drewN _ _ _⟩ | exact ⟨rfl, _, Eq.trans (World.drewN_drewN _ _ _) (congrArg (World.drewN _) (Nat.add_assoc _ _ _))⟩))); try go_wp2_with (first | (go_at_call 44; (with_reducible refine (impl_NameOk.calls k1 a0_0 true _ A33.out).mono ?_); rintro e w' ⟨rfl, ⟨nd, rfl⟩⟩; (try first | exact ⟨rfl, _, World.drewN_drewN _ _ _⟩ | exact ⟨rfl, _, Eq.trans (World.drewN_drewN _ _ _) (congrArg (World.drewN _) (Nat.add_assoc _ _ _))⟩))))
     go_ret
     exact ⟨u7_, u6_⟩
    ·replace c34 := Bool.eq_false_iff.mpr c34
     subst c34
     have H1 : (some false) = some r := by rw [if_neg (show ¬ (false = true) by decide)] at H; exact H
     clear H
     have H := H1
     clear H1
     obtain rfl := Option.some.inj H
     have hcz36_0 : wr.cell? ⟨gb145, 0, none⟩ = some (.string a0_0) := (blk_cell BK145.out 0).trans rfl
     have hcz36_1 : wr.cell? ⟨gb145, 1, none⟩ = some (.slice A0_1 l0_1.length c0_1) := (blk_cell BK145.out 1).trans rfl
     have hfz36_0 := blk_frozen BK145.out 0
     have hfz36_1 := blk_frozen BK145.out 1
     go_wp2_with (first | (go_at_call 44; (with_reducible refine (impl_NameOk.calls k1 a0_0 false _ A33.out).mono ?_); rintro e w' ⟨rfl, ⟨nd, rfl⟩⟩; (try first | exact ⟨rfl, _, World.drewN_drewN _ _ _⟩ | exact ⟨rfl, _, Eq.trans (World.drewN_drewN _ _ _) (congrArg (World.drewN _) (Nat.add_assoc _ _ _))⟩)))
     repeat (go_quiet (first | (go_at_call 44; (with_reducible refine (impl_NameOk.calls k1 a0_0 false _ A33.out).mono ?_); rintro e w' ⟨rfl, ⟨nd, rfl⟩⟩; (try first | exact ⟨rfl, _, World.drewN_drewN _ _ _⟩ | exact ⟨rfl, _, Eq.trans (World.drewN_drewN _ _ _) (congrArg (World.drewN _) (Nat.add_assoc _ _ _))⟩))); try go_wp2_with (first | (go_at_call 44; (with_reducible refine (impl_NameOk.calls k1 a0_0 false _ A33.out).mono ?_); rintro e w' ⟨rfl, ⟨nd, rfl⟩⟩; (try first | exact ⟨rfl, _, World.drewN_drewN _ _ _⟩ | exact ⟨rfl, _, Eq.trans (World.drewN_drewN _ _ _) (congrArg (World.drewN _) (Nat.add_assoc _ _ _))⟩))))
     go_ret
     exact ⟨u7_, u6_⟩

/-! ### impl_DocPut: function 27 -/
def impl_DocPut.l0 : Nat → ByteArray → List (S74) → Int → Int → Option (ByteArray)
 | 0, _, _, _, _ => none
 | k + 1, x3, x12, x13, x14 => if x14 < x13 then (if 0 ≤ x14 then (if x14 < (x12.length : Int) then (if 1 + ((rd_T74 x12 x14).f0).size ≤ 9223372036854775807 then (if ((⟨#[10]⟩ : ByteArray) ++ ((rd_T74 x12 x14).f0)).size + 1 ≤ 9223372036854775807 then (if (((⟨#[10]⟩ : ByteArray) ++ ((rd_T74 x12 x14).f0)) ++ (⟨#[61]⟩ : ByteArray)).size + ((rd_T74 x12 x14).f1).size ≤ 9223372036854775807 then (if x3.size + ((((⟨#[10]⟩ : ByteArray) ++ ((rd_T74 x12 x14).f0)) ++ (⟨#[61]⟩ : ByteArray)) ++ ((rd_T74 x12 x14).f1)).size ≤ 9223372036854775807 then (impl_DocPut.l0 k (x3 ++ ((((⟨#[10]⟩ : ByteArray) ++ ((rd_T74 x12 x14).f0)) ++ (⟨#[61]⟩ : ByteArray)) ++ ((rd_T74 x12 x14).f1))) x12 x13 (wrap64 (x14 + 1))) else (none)) else (none)) else (none)) else (none)) else (none)) else (none)) else (some x3)
def impl_DocPut.f (k : Nat) (a0_0 : ByteArray) (l0_1 : List (S74)) : Option (ByteArray) := (impl_wellFormed.f k a0_0 l0_1).bind fun t153 => (if t153 = true then (impl_DocPut.l0 k a0_0 l0_1 (l0_1.length : Int) 0) else (some (⟨#[]⟩ : ByteArray)))
theorem impl_DocPut.mono_l : ∀ k, (∀ y0 y1 y2 y3, LeO (impl_DocPut.l0 k y0 y1 y2 y3) (impl_DocPut.l0 (k + 1) y0 y1 y2 y3))
 | 0 => fun _ _ _ _ r h => by simp [impl_DocPut.l0] at h
 | k + 1 => by
  have ih0 := impl_DocPut.mono_l k
  ·intro y0 y1 y2 y3
   unfold impl_DocPut.l0
   repeat' first
   | (with_reducible exact ih0 _ _ _ _)
   | (with_reducible exact impl_wellFormed.mono _ _ _)
   | (with_reducible exact LeO.refl _)
   | (with_reducible exact LeO.none _)
   | (with_reducible refine LeO.ite ?_ ?_)
   | (with_reducible refine LeO.bind ?_ (fun _ => ?_))
   | exact ih0 _ _ _ _
   | exact impl_wellFormed.mono _ _ _
   | exact LeO.none _
   | refine LeO.ite ?_ ?_
   | refine LeO.bind ?_ (fun _ => ?_)
theorem impl_DocPut.mono : ∀ a0 a1 k, LeO (impl_DocPut.f k a0 a1) (impl_DocPut.f (k + 1) a0 a1) := by
 intro a0 a1 k
 have ih0 := impl_DocPut.mono_l k
 unfold impl_DocPut.f
 repeat' first
   | (with_reducible exact ih0 _ _ _ _)
   | (with_reducible exact impl_wellFormed.mono _ _ _)
   | (with_reducible exact LeO.refl _)
   | (with_reducible exact LeO.none _)
   | (with_reducible refine LeO.ite ?_ ?_)
   | (with_reducible refine LeO.bind ?_ (fun _ => ?_))
   | exact ih0 _ _ _ _
   | exact impl_wellFormed.mono _ _ _
   | exact LeO.none _
   | refine LeO.ite ?_ ?_
   | refine LeO.bind ?_ (fun _ => ?_)
set_option maxHeartbeats 8000000 in
set_option maxRecDepth 100000 in
theorem impl_DocPut.calls (k : Nat) (a0_0 : ByteArray) (A0_1 : Option Addr) (c0_1 : Nat) (l0_1 : List (S74)) (r : ByteArray) (w : World) (hr0_1 : Kd.C k74 w A0_1 l0_1.length l0_1) (hc0_1 : l0_1.length ≤ c0_1) (h : impl_DocPut.f k a0_0 l0_1 = some r) :
  Calls Tryd.prog 27 #[.agg #[.string a0_0, .slice A0_1 l0_1.length c0_1]] w fun e w' => e = .returned (.string r) ∧ Below w.heap.size w w' := by
 have hu37 := Tryd.underlying37
 have hu74 := Tryd.underlying74
 have HR0_1 := Aside0.mk hr0_1
 have HC0_1 := Aside0.mk hc0_1
 clear hr0_1 hc0_1
 have HB := Aside0.mk (Below.refl w.heap.size w)
 have H : ((impl_wellFormed.f k a0_0 l0_1).bind fun t153 => (if t153 = true then (impl_DocPut.l0 k a0_0 l0_1 (l0_1.length : Int) 0) else (some (⟨#[]⟩ : ByteArray)))) = some r := h
 clear h
 replace H := Option.bind_eq_some_iff.mp H
 obtain ⟨t153, A20, H⟩ := H
 replace H : (if t153 = true then (impl_DocPut.l0 k a0_0 l0_1 (l0_1.length : Int) 0) else (some (⟨#[]⟩ : ByteArray))) = some r := H
 have A2 := Aside0.mk A20
 clear A20
 by_cases c3 : t153 = true
 ·subst c3
  have H1 : (impl_DocPut.l0 k a0_0 l0_1 (l0_1.length : Int) 0) = some r := by rw [if_pos rfl] at H; exact H
  clear H
  have H := H1
  clear H1
  have H' := Aside0.mk H
  clear H
  go_enter Tryd.func27, Tryd.ntmps27
  go_wp2_with (first | ((with_reducible refine gate_dst (N := 1) rfl ?_); refine box_event ?hg (N := 1) ?hd (cs := #[.string a0_0, .slice A0_1 l0_1.length c0_1]) (t := 37) ?hr ?_; (case hd => rfl); (case hg => rfl); (case hr => first | (go_simp; done) | (go_simp; rfl)); intro gb152 hg w4 hbox hb; have n0_ := Aside0.mk (below_step u3_ hb); have n1_ := Aside0.mk (hbox); have n2_ := Aside0.mk ((by rw [hg]; exact (below_size u3_) : w.heap.size ≤ gb152)); have n3_ := n2_; clear HB; have HB := n0_; have BK152 := n1_; have GW152 := n2_; have GE152 := n3_; clear n0_ n1_ n2_ n3_; clear hb hbox hg; have hcz5_0 : w4.cell? ⟨gb152, 0, none⟩ = some (.string a0_0) := (blk_cell BK152.out 0).trans rfl; have hcz5_1 : w4.cell? ⟨gb152, 1, none⟩ = some (.slice A0_1 l0_1.length c0_1) := (blk_cell BK152.out 1).trans rfl; have hfz5_0 := blk_frozen BK152.out 0; have hfz5_1 := blk_frozen BK152.out 1) | ((with_reducible refine gate_callee (f := 54) rfl ?_); refine goesL_ (some 7) rfl rfl Tryd.func54 u17_ rfl #[.agg #[.string a0_0, .slice A0_1 l0_1.length c0_1]] rfl u0_ ?_; (with_reducible refine (impl_wellFormed.calls k a0_0 _ _ l0_1 true _ ?side1 ?side2 A2.out).mono ?_); (case side1 => repeat (first | exact (Kd.C_below HR0_1.out HB.out) | (with_reducible refine Kd.C_alloc ?_ _) | (with_reducible refine Kd.C_drewN ?_ _) | (with_reducible refine Kd.C_drew ?_))); (case side2 => exact HC0_1.out); rintro e w6 ⟨rfl, hb⟩; refine ⟨_, rfl, ?_⟩; have n0_ := Aside0.mk (blk_below (g := gb152) (o := .cells #[.string a0_0, .slice A0_1 l0_1.length c0_1] 37 (0, 0)) u90_ hb); have n1_ := Aside0.mk (below_step u59_ hb); clear BK152; clear HB; have BK152 := n0_; have HB := n1_; clear n0_ n1_; (try clear hb); (try clear hb2); (try clear hk); (try clear hi); have hcz7_0 : w6.cell? ⟨gb152, 0, none⟩ = some (.string a0_0) := (blk_cell BK152.out 0).trans rfl; have hcz7_1 : w6.cell? ⟨gb152, 1, none⟩ = some (.slice A0_1 l0_1.length c0_1) := (blk_cell BK152.out 1).trans rfl; have hfz7_0 := blk_frozen BK152.out 0; have hfz7_1 := blk_frozen BK152.out 1))
  go_loopg [3, 14] k (fun kq v3 v14 w' => ∃ (x3_1 : ByteArray) (x14_1 : Int), v3 = .string x3_1 ∧ v14 = .int .i64 x14_1 ∧ Aside0 (impl_DocPut.l0 kq x3_1 l0_1 (l0_1.length : Int) x14_1 = some r) ∧ Aside0 (kq ≤ k) ∧ Aside0 (w'.heap[gb152]? = some (.cells #[.string a0_0, (.slice A0_1 l0_1.length c0_1)] 37 (0, 0))) ∧ Aside0 (Below w.heap.size w w'))
  case atStart => exact ⟨(a0_0), (0), u22_, u22_, H', ⟨Nat.le_refl _⟩, ⟨u90_⟩, ⟨u59_⟩⟩
  case round =>
   clear H'
   try clear c2
   try clear p2
   try clear c3
   try clear c5
   try clear hcz5_0
   try clear hcz5_1
   try clear hcz7_0
   try clear hcz7_1
   try clear hfz5_0
   try clear hfz5_1
   try clear hfz7_0
   try clear hfz7_1
   obtain ⟨x3_1, x14_1, rfl, rfl, HA, HK1, BK152, HB⟩ := hrel
   cases gk with
   | zero => exact absurd HA.out (by simp [impl_DocPut.l0])
   | succ k1 =>
    have H := HA.out
    clear HA
    simp only [impl_DocPut.l0] at H
    by_cases c8 : x14_1 < (l0_1.length : Int)
    ·rw [if_pos c8] at H
     have c8b0 : decide (x14_1 < (l0_1.length : Int)) = true := decide_eq_true c8
     clear c8
     by_cases c9 : 0 ≤ x14_1
     ·rw [if_pos c9] at H
      have c9b0 : decide (0 ≤ x14_1) = true := decide_eq_true c9
      clear c9
      by_cases c10 : x14_1 < (l0_1.length : Int)
      ·rw [if_pos c10] at H
       have c10b0 : decide (x14_1 < (l0_1.length : Int)) = true := decide_eq_true c10
       clear c10
       by_cases c11 : 1 + ((rd_T74 l0_1 x14_1).f0).size ≤ 9223372036854775807
       ·rw [if_pos c11] at H
        have c11b0 := eq_true c11
        have c11b1 : decide (1 + ((rd_T74 l0_1 x14_1).f0).size ≤ 9223372036854775807) = true := decide_eq_true c11
        try have c11b2 : (9223372036854775807 < 1 + ((rd_T74 l0_1 x14_1).f0).size) = False := eq_false (Nat.not_lt.2 c11)
        by_cases c12 : ((⟨#[10]⟩ : ByteArray) ++ ((rd_T74 l0_1 x14_1).f0)).size + 1 ≤ 9223372036854775807
        ·rw [if_pos c12] at H
         have c12b0 := eq_true c12
         have c12b1 : decide (((⟨#[10]⟩ : ByteArray) ++ ((rd_T74 l0_1 x14_1).f0)).size + 1 ≤ 9223372036854775807) = true := decide_eq_true c12
         try have c12b2 : (9223372036854775807 < ((⟨#[10]⟩ : ByteArray) ++ ((rd_T74 l0_1 x14_1).f0)).size + 1) = False := eq_false (Nat.not_lt.2 c12)
         try have c12b3 := c12; try simp only [ByteArray.size_append, size_lit, List.size_toArray, List.length_cons, List.length_nil, Nat.zero_add, Nat.reduceAdd] at c12b3; try have c12b4 := eq_true c12b3; try have c12b5 := decide_eq_true c12b3; try have c12b6 := eq_false (Nat.not_lt.2 c12b3)
         try have c12b7 := c12b3; try simp at c12b7; try have c12b8 := eq_true c12b7; try have c12b9 := decide_eq_true c12b7; try have c12bA := eq_false (Nat.not_lt.2 c12b7)
         by_cases c13 : (((⟨#[10]⟩ : ByteArray) ++ ((rd_T74 l0_1 x14_1).f0)) ++ (⟨#[61]⟩ : ByteArray)).size + ((rd_T74 l0_1 x14_1).f1).size ≤ 9223372036854775807
         ·rw [if_pos c13] at H
          have c13b0 := eq_true c13
          have c13b1 : decide ((((⟨#[10]⟩ : ByteArray) ++ ((rd_T74 l0_1 x14_1).f0)) ++ (⟨#[61]⟩ : ByteArray)).size + ((rd_T74 l0_1 x14_1).f1).size ≤ 9223372036854775807) = true := decide_eq_true c13
          try have c13b2 : (9223372036854775807 < (((⟨#[10]⟩ : ByteArray) ++ ((rd_T74 l0_1 x14_1).f0)) ++ (⟨#[61]⟩ : ByteArray)).size + ((rd_T74 l0_1 x14_1).f1).size) = False := eq_false (Nat.not_lt.2 c13)
          try have c13b3 := c13; try simp only [ByteArray.size_append, size_lit, List.size_toArray, List.length_cons, List.length_nil, Nat.zero_add, Nat.reduceAdd] at c13b3; try have c13b4 := eq_true c13b3; try have c13b5 := decide_eq_true c13b3; try have c13b6 := eq_false (Nat.not_lt.2 c13b3)
          try have c13b7 := c13b3; try simp at c13b7; try have c13b8 := eq_true c13b7; try have c13b9 := decide_eq_true c13b7; try have c13bA := eq_false (Nat.not_lt.2 c13b7)
          by_cases c14 : x3_1.size + ((((⟨#[10]⟩ : ByteArray) ++ ((rd_T74 l0_1 x14_1).f0)) ++ (⟨#[61]⟩ : ByteArray)) ++ ((rd_T74 l0_1 x14_1).f1)).size ≤ 9223372036854775807
          ·rw [if_pos c14] at H
           have c14b0 := eq_true c14
           have c14b1 : decide (x3_1.size + ((((⟨#[10]⟩ : ByteArray) ++ ((rd_T74 l0_1 x14_1).f0)) ++ (⟨#[61]⟩ : ByteArray)) ++ ((rd_T74 l0_1 x14_1).f1)).size ≤ 9223372036854775807) = true := decide_eq_true c14
           try have c14b2 : (9223372036854775807 < x3_1.size + ((((⟨#[10]⟩ : ByteArray) ++ ((rd_T74 l0_1 x14_1).f0)) ++ (⟨#[61]⟩ : ByteArray)) ++ ((rd_T74 l0_1 x14_1).f1)).size) = False := eq_false (Nat.not_lt.2 c14)
           try have c14b3 := c14; try simp only [ByteArray.size_append, size_lit, List.size_toArray, List.length_cons, List.length_nil, Nat.zero_add, Nat.reduceAdd] at c14b3; try have c14b4 := eq_true c14b3; try have c14b5 := decide_eq_true c14b3; try have c14b6 := eq_false (Nat.not_lt.2 c14b3)
           try have c14b7 := c14b3; try simp at c14b7; try have c14b8 := eq_true c14b7; try have c14b9 := decide_eq_true c14b7; try have c14bA := eq_false (Nat.not_lt.2 c14b7)
           have H' := Aside0.mk H
           clear H
           have p154 : 0 ≤ (x14_1 : Int) := of_decide_eq_true u1_
           have q154 : x14_1 < (l0_1.length : Int) := of_decide_eq_true u1_
           obtain ⟨ad154, e154, hx154_0, hx154_1⟩ := at_T74 HR0_1.out x14_1 p154 q154
           cases e154
           replace hx154_0 := (HB.out.cell (World.block_lt_of_cell? w _ hx154_0)).trans hx154_0
           replace hx154_1 := (HB.out.cell (World.block_lt_of_cell? w _ hx154_1)).trans hx154_1
           replace p154 := eq_true p154
           replace q154 := eq_true q154
           go_wp2_with (first | ((with_reducible refine gate_dst (N := 5) rfl ?_); refine box_event ?hg (N := 5) ?hd (cs := #[.string (⟨#[]⟩ : ByteArray), .string (⟨#[]⟩ : ByteArray)]) (t := 74) ?hr ?_; (case hd => rfl); (case hg => rfl); (case hr => first | (go_simp; done) | (go_simp; rfl)); intro gb155 hg w15 hbox hb; have n0_ := Aside0.mk (blk_below (g := gb152) (o := .cells #[.string a0_0, .slice (some ad154) l0_1.length c0_1] 37 (0, 0)) u90_ hb); have n1_ := Aside0.mk (below_step u59_ hb); have n2_ := Aside0.mk (hbox); have n3_ := Aside0.mk ((by rw [hg]; exact (below_size u59_) : w.heap.size ≤ gb155)); have n4_ := n3_; have n5_ := Aside0.mk ((by rw [hg]; exact Nat.ne_of_lt (blk_lt (g := gb152) (o := .cells #[.string a0_0, .slice (some ad154) l0_1.length c0_1] 37 (0, 0)) u90_) : gb152 ≠ gb155)); have n6_ := Aside0.mk ((by rw [hg]; exact Nat.ne_of_gt (blk_lt (g := gb152) (o := .cells #[.string a0_0, .slice (some ad154) l0_1.length c0_1] 37 (0, 0)) u90_) : gb155 ≠ gb152)); clear BK152; clear HB; have BK152 := n0_; have HB := n1_; have BK155 := n2_; have GW155 := n3_; have GE155 := n4_; have NB152_155 := n5_; have NB155_152 := n6_; clear n0_ n1_ n2_ n3_ n4_ n5_ n6_; clear hb hbox hg; have hnb16 := NB155_152.out; have hnc16 := NB152_155.out; have hcz17_0 : w15.cell? ⟨gb155, 0, none⟩ = some (.string (⟨#[]⟩ : ByteArray)) := (blk_cell BK155.out 0).trans rfl; have hcz17_1 : w15.cell? ⟨gb155, 1, none⟩ = some (.string (⟨#[]⟩ : ByteArray)) := (blk_cell BK155.out 1).trans rfl; have hfz17_0 := blk_frozen BK155.out 0; have hfz17_1 := blk_frozen BK155.out 1))
           go_roundg k1
           case measure => have := HK1.out; omega
           case rel => exact ⟨(x3_1 ++ ((((⟨#[10]⟩ : ByteArray) ++ ((rd_T74 l0_1 x14_1).f0)) ++ (⟨#[61]⟩ : ByteArray)) ++ ((rd_T74 l0_1 x14_1).f1))), (wrap64 (x14_1 + 1)), u22_, u22_, H', ⟨u102_⟩, ⟨by (with_reducible repeat (first | refine blk_drewN ?_ _ | refine blk_drew ?_ | refine blk_alloc ?_ _)); refine blk_far ?_ NB152_155.out _; (with_reducible repeat (first | refine blk_drewN ?_ _ | refine blk_drew ?_ | refine blk_alloc ?_ _)); refine blk_far ?_ NB152_155.out _; (with_reducible repeat (first | refine blk_drewN ?_ _ | refine blk_drew ?_ | refine blk_alloc ?_ _)); exact BK152.out⟩, ⟨by repeat (first | (with_reducible first | exact HB.out | apply below_alloc | apply pw_below_drewN | apply below_drew1 | refine below_set ?_ GE152.out | refine below_set ?_ GE155.out) | exact HB.out)⟩⟩
          ·rw [if_neg c14] at H
           exact absurd H u89_
         ·rw [if_neg c13] at H
          exact absurd H u89_
        ·rw [if_neg c12] at H
         exact absurd H u89_
       ·rw [if_neg c11] at H
        exact absurd H u89_
      ·rw [if_neg c10] at H
       exact absurd H u89_
     ·rw [if_neg c9] at H
      exact absurd H u89_
    ·rw [if_neg c8] at H
     have c8b0 : decide (x14_1 < (l0_1.length : Int)) = false := decide_eq_false c8
     clear c8
     obtain rfl := Option.some.inj H
     go_wp2
     go_ret
     exact ⟨u7_, u59_⟩
 ·replace c3 := Bool.eq_false_iff.mpr c3
  subst c3
  have H1 : (some (⟨#[]⟩ : ByteArray)) = some r := by rw [if_neg (show ¬ (false = true) by decide)] at H; exact H
  clear H
  have H := H1
  clear H1
  obtain rfl := Option.some.inj H
  go_enter Tryd.func27, Tryd.ntmps27
  go_wp2_with (first | ((with_reducible refine gate_dst (N := 1) rfl ?_); refine box_event ?hg (N := 1) ?hd (cs := #[.string a0_0, .slice A0_1 l0_1.length c0_1]) (t := 37) ?hr ?_; (case hd => rfl); (case hg => rfl); (case hr => first | (go_simp; done) | (go_simp; rfl)); intro gb152 hg w18 hbox hb; have n0_ := Aside0.mk (below_step u3_ hb); have n1_ := Aside0.mk (hbox); have n2_ := Aside0.mk ((by rw [hg]; exact (below_size u3_) : w.heap.size ≤ gb152)); have n3_ := n2_; clear HB; have HB := n0_; have BK152 := n1_; have GW152 := n2_; have GE152 := n3_; clear n0_ n1_ n2_ n3_; clear hb hbox hg; have hcz19_0 : w18.cell? ⟨gb152, 0, none⟩ = some (.string a0_0) := (blk_cell BK152.out 0).trans rfl; have hcz19_1 : w18.cell? ⟨gb152, 1, none⟩ = some (.slice A0_1 l0_1.length c0_1) := (blk_cell BK152.out 1).trans rfl; have hfz19_0 := blk_frozen BK152.out 0; have hfz19_1 := blk_frozen BK152.out 1) | ((with_reducible refine gate_callee (f := 54) rfl ?_); refine goesL_ (some 7) rfl rfl Tryd.func54 u17_ rfl #[.agg #[.string a0_0, .slice A0_1 l0_1.length c0_1]] rfl u0_ ?_; (with_reducible refine (impl_wellFormed.calls k a0_0 _ _ l0_1 false _ ?side1 ?side2 A2.out).mono ?_); (case side1 => repeat (first | exact (Kd.C_below HR0_1.out HB.out) | (with_reducible refine Kd.C_alloc ?_ _) | (with_reducible refine Kd.C_drewN ?_ _) | (with_reducible refine Kd.C_drew ?_))); (case side2 => exact HC0_1.out); rintro e w20 ⟨rfl, hb⟩; refine ⟨_, rfl, ?_⟩; have n0_ := Aside0.mk (blk_below (g := gb152) (o := .cells #[.string a0_0, .slice A0_1 l0_1.length c0_1] 37 (0, 0)) u90_ hb); have n1_ := Aside0.mk (below_step u59_ hb); clear BK152; clear HB; have BK152 := n0_; have HB := n1_; clear n0_ n1_; (try clear hb); (try clear hb2); (try clear hk); (try clear hi)))
  go_ret
  exact ⟨u7_, u59_⟩

/-! ### strings_Split: function 52 -/
def strings_Split.f (a0 a1 : ByteArray) : Option (List ByteArray) := if a0.size < 4294967281 ∧ 1 ≤ a1.size then some (Lib.splitB a1 0 (Lib.countB a0 a1) a0) else none
theorem strings_Split.calls (a0 a1 : ByteArray) (r : List ByteArray) (w : World) (hG : StopsIn w) (h : strings_Split.f a0 a1 = some r) :
  Calls Tryd.prog 52 #[.string a0, .string a1] w fun e w' => ∃ v0_ : Value, e = .returned (v0_) ∧ Kd.R Kd.string 9 w' w.heap.size (fun _ => True) v0_ r ∧ Below w.heap.size w w' := by
 unfold strings_Split.f at h
 by_cases hs : a0.size < 4294967281 ∧ 1 ≤ a1.size
 case neg => rw [if_neg hs] at h; exact absurd h u89_
 rw [if_pos hs] at h
 have h := Option.some.inj h
 obtain ⟨m, hm⟩ := hG.max
 have hle := Lib.countB_le a1 hs.2 a0.size a0 (Nat.le_refl _)
 have hlen := Lib.splitB_all a1 hs.2 0 _ a0 rfl
 rw [h] at hlen
 refine (Go.Proofs.Tryd.strings_Split a0 a1 m w hs.1 hm hs.2).mono ?_
 rintro e w' ⟨rfl, rfl⟩
 rw [h]
 refine ⟨_, rfl, ?_, below_alloc (Below.refl _ _) _⟩
 have hh : (w.alloc (.cells (r.map Value.string).toArray 9)).heap[w.heap.size]? = some (.cells (r.map Value.string).toArray 9 (0, 0)) := by
  unfold World.alloc
  simp
 have hx := row_mk (enc := Value.string) (h1 := fun _ => rfl) (ok := fun _ => True) (xs := r) (cap := Lib.countB a0 a1 + 1) (Nat.le_refl _) hh (by omega) (by have : maxLen = 9223372036854775807 := rfl; omega) (by simp [hlen]) trivial (fun j x hj => by simp [hj])
 rw [hlen] at hx
 exact hx

/-! ### strings_Cut: function 53 -/
def strings_Cut.f (a0 a1 : ByteArray) : Option (ByteArray × ByteArray × Bool) := if a0.size < 4294967281 then some (⟨(Lib.cut a0.data.toList a1.data.toList).1.toArray⟩, ⟨(Lib.cut a0.data.toList a1.data.toList).2.1.toArray⟩, (Lib.cut a0.data.toList a1.data.toList).2.2) else none
theorem strings_Cut.calls (a0 a1 : ByteArray) (r1 : ByteArray) (r2 : ByteArray) (r3 : Bool) (w : World) (hG : StopsIn w) (h : strings_Cut.f a0 a1 = some (r1, r2, r3)) :
  Calls Tryd.prog 53 #[.string a0, .string a1] w fun e w' => e = .returned (.tuple #[.string r1, .string r2, .bool r3]) ∧ Drawn0 w w' := by
 unfold strings_Cut.f at h
 by_cases hs : a0.size < 4294967281
 case neg => rw [if_neg hs] at h; exact absurd h u89_
 rw [if_pos hs] at h
 have h := Option.some.inj h
 simp only [Prod.mk.injEq] at h
 obtain ⟨rfl, rfl, rfl⟩ := h
 obtain ⟨m, hm⟩ := hG.max
 refine (Go.Proofs.Tryd.strings_Cut a0 a1 m w hs hm).mono ?_
 rintro e w' ⟨rfl, n, rfl⟩
 exact ⟨rfl, ⟨n, rfl⟩⟩

/-! ### impl_DocGet: function 18 -/
def impl_DocGet.l0 : Nat → ByteArray → List ByteArray → Int → Int → ByteArray → List (S74) → Option (ByteArray × (List (S74)) × Bool)
 | 0, _, _, _, _, _, _ => none
 | k + 1, x0, x19, x20, x21, x165000, x165001 => if x21 < x20 then (if 0 ≤ x21 then (if x21 < (x19.length : Int) then ((strings_Cut.f (rdOf ByteArray.empty x19 x21) (⟨#[61]⟩ : ByteArray)).bind fun bt171 => (if x165001.length < 4398046511104 then (impl_DocGet.l0 k x0 x19 x20 (wrap64 (x21 + 1)) x165000 (x165001 ++ [(⟨bt171.1, bt171.2.1⟩ : S74)])) else (none))) else (none)) else (none)) else ((impl_wellFormed.f k x165000 x165001).bind fun t177 => (if t177 = true then ((impl_DocPut.f k x165000 x165001).bind fun t178 => (if t178.toList = x0.toList then (some (x165000, x165001, true)) else (some ((⟨#[]⟩ : ByteArray), ([] : List (S74)), false)))) else (some ((⟨#[]⟩ : ByteArray), ([] : List (S74)), false))))
def impl_DocGet.f (k : Nat) (a0 : ByteArray) : Option (ByteArray × (List (S74)) × Bool) := (strings_Split.f a0 (⟨#[10]⟩ : ByteArray)).bind fun t157 => (if 0 < (t157.length : Int) then (if 1 ≤ (t157.length : Int) then ((some (t157.drop 1 : List ByteArray)).bind fun y165 => (impl_DocGet.l0 k a0 y165 (y165.length : Int) 0 (rdOf ByteArray.empty t157 0) (([] : List (S74))))) else (none)) else (none))
theorem impl_DocGet.mono_l : ∀ k, (∀ y0 y1 y2 y3 y4 y5, LeO (impl_DocGet.l0 k y0 y1 y2 y3 y4 y5) (impl_DocGet.l0 (k + 1) y0 y1 y2 y3 y4 y5))
 | 0 => fun _ _ _ _ _ _ r h => by simp [impl_DocGet.l0] at h
 | k + 1 => by
  have ih0 := impl_DocGet.mono_l k
  ·intro y0 y1 y2 y3 y4 y5
   unfold impl_DocGet.l0
   repeat' first
   | (with_reducible exact ih0 _ _ _ _ _ _)
   | (with_reducible exact impl_DocPut.mono _ _ _)
   | (with_reducible exact impl_wellFormed.mono _ _ _)
   | (with_reducible exact LeO.refl _)
   | (with_reducible exact LeO.none _)
   | (with_reducible refine LeO.ite ?_ ?_)
   | (with_reducible refine LeO.bind ?_ (fun _ => ?_))
   | exact ih0 _ _ _ _ _ _
   | exact impl_DocPut.mono _ _ _
   | exact impl_wellFormed.mono _ _ _
   | exact LeO.none _
   | refine LeO.ite ?_ ?_
   | refine LeO.bind ?_ (fun _ => ?_)
theorem impl_DocGet.mono : ∀ a0 k, LeO (impl_DocGet.f k a0) (impl_DocGet.f (k + 1) a0) := by
 intro a0 k
 have ih0 := impl_DocGet.mono_l k
 unfold impl_DocGet.f
 repeat' first
   | (with_reducible exact ih0 _ _ _ _ _ _)
   | (with_reducible exact impl_DocPut.mono _ _ _)
   | (with_reducible exact impl_wellFormed.mono _ _ _)
   | (with_reducible exact LeO.refl _)
   | (with_reducible exact LeO.none _)
   | (with_reducible refine LeO.ite ?_ ?_)
   | (with_reducible refine LeO.bind ?_ (fun _ => ?_))
   | exact ih0 _ _ _ _ _ _
   | exact impl_DocPut.mono _ _ _
   | exact impl_wellFormed.mono _ _ _
   | exact LeO.none _
   | refine LeO.ite ?_ ?_
   | refine LeO.bind ?_ (fun _ => ?_)
set_option maxHeartbeats 8000000 in
set_option maxRecDepth 100000 in
theorem impl_DocGet.calls (k : Nat) (a0 : ByteArray) (r1 : ByteArray) (r2 : List (S74)) (r3 : Bool) (w : World) (hG : StopsIn w) (h : impl_DocGet.f k a0 = some (r1, r2, r3)) :
  Calls Tryd.prog 18 #[.string a0] w fun e w' => ∃ v1_ : Value, e = .returned (.tuple #[.agg #[.string r1, v1_], .bool r3]) ∧ Kd.R k74 74 w' w.heap.size (fun _ => True) v1_ r2 ∧ Below w.heap.size w w' := by
 have hu37 := Tryd.underlying37
 have hu74 := Tryd.underlying74
 have HG_ := Aside0.mk hG
 clear hG
 have HB := Aside0.mk (Below.refl w.heap.size w)
 have H : ((strings_Split.f a0 (⟨#[10]⟩ : ByteArray)).bind fun t157 => (if 0 < (t157.length : Int) then (if 1 ≤ (t157.length : Int) then ((some (t157.drop 1 : List ByteArray)).bind fun y165 => (impl_DocGet.l0 k a0 y165 (y165.length : Int) 0 (rdOf ByteArray.empty t157 0) (([] : List (S74))))) else (none)) else (none))) = some (r1, r2, r3) := h
 clear h
 replace H := Option.bind_eq_some_iff.mp H
 obtain ⟨t157, A20, H⟩ := H
 replace H : (if 0 < (t157.length : Int) then (if 1 ≤ (t157.length : Int) then ((some (t157.drop 1 : List ByteArray)).bind fun y165 => (impl_DocGet.l0 k a0 y165 (y165.length : Int) 0 (rdOf ByteArray.empty t157 0) (([] : List (S74))))) else (none)) else (none)) = some (r1, r2, r3) := H
 have A2 := Aside0.mk A20
 clear A20
 by_cases c3 : 0 < (t157.length : Int)
 ·rw [if_pos c3] at H
  have c3b0 : decide (0 < (t157.length : Int)) = true := decide_eq_true c3
  have c3b1 : decide (0 < t157.length) = true := decide_eq_true (by omega)
  clear c3
  obtain ⟨y161, hy161⟩ : ∃ y_ : List (S74), y_ = (([] : List (S74))) := ⟨_, rfl⟩
  replace H : (if 1 ≤ (t157.length : Int) then ((some (t157.drop 1 : List ByteArray)).bind fun y165 => (impl_DocGet.l0 k a0 y165 (y165.length : Int) 0 (rdOf ByteArray.empty t157 0) y161)) else (none)) = some (r1, r2, r3) := by first | (rw [hy161]; with_reducible exact H) | (have H2_ := (Option.bind_some _ _).symm.trans H; rw [hy161]; with_reducible exact H2_) | (have H2_ := (Option.bind_some _ _).symm.trans H; with_reducible exact H2_) | with_reducible exact H | (rw [hy161]; exact H) | exact H
  have Ny161 := Aside0.mk hy161
  clear hy161
  by_cases c4 : 1 ≤ (t157.length : Int)
  ·rw [if_pos c4] at H
   have c4b0 := eq_true c4
   have c4b1 : decide (1 ≤ (t157.length : Int)) = true := decide_eq_true c4
   clear c4
   obtain ⟨y165, hy165⟩ : ∃ y_ : List ByteArray, y_ = (t157.drop 1) := ⟨_, rfl⟩
   replace H : (impl_DocGet.l0 k a0 y165 (y165.length : Int) 0 (rdOf ByteArray.empty t157 0) y161) = some (r1, r2, r3) := by first | (rw [hy165]; with_reducible exact H) | (have H2_ := (Option.bind_some _ _).symm.trans H; rw [hy165]; with_reducible exact H2_) | (have H2_ := (Option.bind_some _ _).symm.trans H; with_reducible exact H2_) | with_reducible exact H | (rw [hy165]; exact H) | exact H
   have Ny165 := Aside0.mk hy165
   clear hy165
   have H' := Aside0.mk H
   clear H
   go_enter Tryd.func18, Tryd.ntmps18
   go_wp2_with (first | ((with_reducible refine gate_dst (N := 2) rfl ?_); refine box_event ?hg (N := 2) ?hd (cs := #[.string (⟨#[]⟩ : ByteArray), .slice none 0 0]) (t := 37) ?hr ?_; (case hd => rfl); (case hg => rfl); (case hr => first | (go_simp; done) | (go_simp; rfl)); intro gb156 hg w5 hbox hb; have n0_ := Aside0.mk (below_step u3_ hb); have n1_ := Aside0.mk (hbox); have n2_ := Aside0.mk ((by rw [hg]; exact (below_size u3_) : w.heap.size ≤ gb156)); have n3_ := n2_; clear HB; have HB := n0_; have BK156 := n1_; have GW156 := n2_; have GE156 := n3_; clear n0_ n1_ n2_ n3_; clear hb hbox hg) | ((with_reducible refine gate_callee (f := 52) rfl ?_); refine goesL_ (some 12) rfl rfl Tryd.func52 u17_ rfl #[.string a0, .string (⟨#[10]⟩ : ByteArray)] rfl u0_ ?_; (with_reducible refine (strings_Split.calls a0 (⟨#[10]⟩ : ByteArray) t157 _ ?side1 A2.out).mono ?_); (case side1 => exact StopsIn.below HG_.out u58_); rintro e w6 ⟨v158, rfl, ho0, hb⟩; refine ⟨_, rfl, ?_⟩; have n0_ := Aside0.mk (Kd.R_lower ho0 (below_size u58_)); have n1_ := Aside0.mk (blk_below (g := gb156) (o := .cells #[.string (⟨#[]⟩ : ByteArray), .slice none 0 0] 37 (0, 0)) u44_ hb); have n2_ := Aside0.mk (below_step u58_ hb); clear BK156; clear HB; have HO159 := n0_; have BK156 := n1_; have HB := n2_; clear n0_ n1_ n2_; (try clear hb); (try clear hb2); (try clear hk); (try clear hi); (try clear ho0); obtain ⟨Ao7, co7, eo7⟩ := Kd.R_slice HO159.out; subst eo7; have p160 : 0 ≤ (0 : Int) := (by omega); have q160 : 0 < (t157.length : Int) := of_decide_eq_true u1_; obtain ⟨ad160, e160, hx160_0⟩ := Kd.at_string (Kd.R_reads' HO159.out).2.2 0 p160 q160; cases e160; have qi160 : (0 < t157.length) = True := eq_true (by omega); (try rw [show ((0 : Int)).toNat = 0 from rfl] at hx160_0); (try rw [Addr.add_zero'] at hx160_0); replace p160 := eq_true p160; replace q160 := eq_true q160) | ((with_reducible refine gate_dst (N := 16) rfl ?_); refine Kd.R_lit k74 _ 74 ?hg (N := 16) ?hd (xs := ([] : List (S74))) (inner := []) (ok := fun _ => True) (okp := fun _ => True) ?hr ?hp (fun _ hk => hk) trivial (Below.refl _ _) (Nat.le_refl _) u89_ ?_; (case hd => rfl); (case hg => rfl); (case hr => first | (go_simp; done) | (go_simp; rfl)); (case hp => exact (Reps.none _ _)); intro v162 w8 ho9 hb hg_ hnew_; clear hg_ hnew_; (first | rw [← Ny161.out] at ho9 | (simp only [Int.reduceToNat] at ho9; rw [← Ny161.out] at ho9)); have n0_ := Aside0.mk (Kd.R_below (by (with_reducible repeat (first | apply Kd.R_alloc | apply Kd.R_drewN | apply Kd.R_drew)); exact HO159.out) hb); have n1_ := Aside0.mk (Kd.R_lower ho9 (below_size u58_)); have n2_ := Aside0.mk (blk_below (g := gb156) (o := .cells #[.string (⟨#[]⟩ : ByteArray), .slice none 0 0] 37 (0, 0)) u44_ hb); have n3_ := Aside0.mk (below_step u58_ hb); clear HO159; clear BK156; clear HB; have HO159 := n0_; have HO163 := n1_; have BK156 := n2_; have HB := n3_; clear n0_ n1_ n2_ n3_; clear hb ho9; obtain ⟨Ao10, co10, eo10⟩ := Kd.R_slice HO163.out; subst eo10) | ((with_reducible refine gate_dst (N := 5) rfl ?_); refine box_event ?hg (N := 5) ?hd (cs := #[.string (⟨#[]⟩ : ByteArray), .slice none 0 0]) (t := 37) ?hr ?_; (case hd => rfl); (case hg => rfl); (case hr => first | (go_simp; done) | (go_simp; rfl)); intro gb164 hg w11 hbox hb; have n0_ := Aside0.mk (Kd.R_below (by (with_reducible repeat (first | apply Kd.R_alloc | apply Kd.R_drewN | apply Kd.R_drew)); exact HO159.out) hb); have n1_ := Aside0.mk (Kd.R_below (by (with_reducible repeat (first | apply Kd.R_alloc | apply Kd.R_drewN | apply Kd.R_drew)); exact HO163.out) hb); have n2_ := Aside0.mk (blk_below (g := gb156) (o := .cells #[.string (⟨#[]⟩ : ByteArray), .slice none 0 0] 37 (0, 0)) u44_ hb); have n3_ := Aside0.mk (below_step u58_ hb); have n4_ := Aside0.mk (hbox); have n5_ := Aside0.mk ((by rw [hg]; exact (below_size u58_) : w.heap.size ≤ gb164)); have n6_ := Aside0.mk ((by rw [hg]; exact (below_size u58_) : w.heap.size ≤ gb164)); have n7_ := Aside0.mk ((by rw [hg]; exact Nat.ne_of_lt (blk_lt (g := gb156) (o := .cells #[.string (⟨#[]⟩ : ByteArray), .slice none 0 0] 37 (0, 0)) u44_) : gb156 ≠ gb164)); have n8_ := Aside0.mk ((by rw [hg]; exact Nat.ne_of_gt (blk_lt (g := gb156) (o := .cells #[.string (⟨#[]⟩ : ByteArray), .slice none 0 0] 37 (0, 0)) u44_) : gb164 ≠ gb156)); clear HO159; clear HO163; clear BK156; clear HB; have HO159 := n0_; have HO163 := n1_; have BK156 := n2_; have HB := n3_; have BK164 := n4_; have GW164 := n5_; have GE164 := n6_; have NB156_164 := n7_; have NB164_156 := n8_; clear n0_ n1_ n2_ n3_ n4_ n5_ n6_ n7_ n8_; clear hb hbox hg; have hnb12 := NB164_156.out; have hnc12 := NB156_164.out; have hcz13_0 : w11.cell? ⟨gb164, 0, none⟩ = some (.string (⟨#[]⟩ : ByteArray)) := (blk_cell BK164.out 0).trans rfl; have hcz13_1 : w11.cell? ⟨gb164, 1, none⟩ = some (.slice none 0 0) := (blk_cell BK164.out 1).trans rfl; have hfz13_0 := blk_frozen BK164.out 0; have hfz13_1 := blk_frozen BK164.out 1) | ((with_reducible refine gate_store (t := 37) (p := 5) rfl ?_); refine store_event (t := 37) (p := 5) (v := ?vo_w14) (w1 := ((w11.setCell ⟨gb164, 0, none⟩ (.string (rdOf ByteArray.empty t157 0))).setCell ⟨gb164, 1, none⟩ (.slice Ao10 y161.length co10))) ?hg ?ho ?hn ?hr ?_; (case ho => rfl); (case hg => rfl); (case hn => rfl); (case hr => first | (go_simp; done) | (go_simp; rfl)); intro w14 hw; have n0_ : Aside0 (Kd.R Kd.string 9 w14 w.heap.size (fun _ => True) (.slice (some ad160) t157.length co7) t157) := ⟨(by rw [hw]; exact (by (with_reducible repeat (first | apply Kd.R_alloc | apply Kd.R_drewN | apply Kd.R_drew)); exact Kd.R_mono (Kd.R_far (p := ⟨gb164, 1, none⟩) (Kd.R_far (p := ⟨gb164, 0, none⟩) (Kd.R_types HO159.out BK164.out u39_) (fun _ hk => hk.2) (.string (rdOf ByteArray.empty t157 0))) (fun _ hk => hk.2) (.slice Ao10 y161.length co10)) (fun _ hk => trivial)))⟩; have n1_ : Aside0 (Kd.R k74 74 w14 w.heap.size (fun _ => True) (.slice Ao10 y161.length co10) y161) := ⟨(by rw [hw]; exact (by (with_reducible repeat (first | apply Kd.R_alloc | apply Kd.R_drewN | apply Kd.R_drew)); exact Kd.R_mono (Kd.R_far (p := ⟨gb164, 1, none⟩) (Kd.R_far (p := ⟨gb164, 0, none⟩) (Kd.R_types HO163.out BK164.out u39_) (fun _ hk => hk.2) (.string (rdOf ByteArray.empty t157 0))) (fun _ hk => hk.2) (.slice Ao10 y161.length co10)) (fun _ hk => trivial)))⟩; have n2_ : Aside0 (w14.heap[gb156]? = some (.cells #[.string (⟨#[]⟩ : ByteArray), .slice none 0 0] 37 (0, 0))) := ⟨(by rw [hw]; exact (by (with_reducible repeat (first | refine blk_drewN ?_ _ | refine blk_drew ?_ | refine blk_alloc ?_ _)); refine blk_far ?_ NB156_164.out _; (with_reducible repeat (first | refine blk_drewN ?_ _ | refine blk_drew ?_ | refine blk_alloc ?_ _)); refine blk_far ?_ NB156_164.out _; (with_reducible repeat (first | refine blk_drewN ?_ _ | refine blk_drew ?_ | refine blk_alloc ?_ _)); exact BK156.out))⟩; have n3_ : Aside0 (w14.heap[gb164]? = some (.cells #[.string (rdOf ByteArray.empty t157 0), .slice Ao10 y161.length co10] 37 (0, 0))) := ⟨(by rw [hw]; exact (by (with_reducible repeat (first | refine blk_drewN ?_ _ | refine blk_drew ?_ | refine blk_alloc ?_ _)); refine blk_put (cs := #[.string (rdOf ByteArray.empty t157 0), .slice none 0 0]) ?_ 1 _ rfl; (with_reducible repeat (first | refine blk_drewN ?_ _ | refine blk_drew ?_ | refine blk_alloc ?_ _)); refine blk_put (cs := #[.string (⟨#[]⟩ : ByteArray), .slice none 0 0]) ?_ 0 _ rfl; (with_reducible repeat (first | refine blk_drewN ?_ _ | refine blk_drew ?_ | refine blk_alloc ?_ _)); exact BK164.out))⟩; have n4_ : Aside0 (Below w.heap.size w w14) := ⟨(by rw [hw]; exact u24_)⟩; clear hw; clear HO159; clear HO163; clear BK156; clear BK164; clear HB; have HO159 := n0_; have HO163 := n1_; have BK156 := n2_; have BK164 := n3_; have HB := n4_; clear n0_ n1_ n2_ n3_ n4_; have q15 : (1 : Int) ≤ ((t157.length : Int) : Int) := of_decide_eq_true u1_; obtain ⟨i015, hi015, _, hsz15, _⟩ := info_parts info9; have hroom15 : t157.length ≤ co7 := (Kd.R_reads' HO159.out).2.1; have hC15 : Kd.F Kd.string _ _ (some ad160) t157.length t157 := (Kd.V_at (base := w.heap.size) (Kd.R_V (Kd.R_types (Kd.R_types (Kd.R_apart' (HO159.out) (Kd.R_typed HO163.out) u39_) BK156.out u39_) BK164.out u39_))).2.2; have hcut15 := cut_from (P := Tryd.prog) 63 9 .i64 Tryd.underlying63 hi015 1 hsz15 (some ad160) t157.length co7 1 (by omega) q15; have hr15 := Kd.F_cut (m := (1 : Int).toNat) (c := co7) hC15 (by omega) hroom15; obtain ⟨A15, hA15⟩ : ∃ A1, A1 = (if co7 = (1 : Int).toNat then (some ad160) else ((some ad160) : Option Addr).map (·.add ((1 : Int).toNat * 1))) := ⟨_, rfl⟩; obtain ⟨c15, hc15⟩ : ∃ c1, c1 = co7 - (1 : Int).toNat := ⟨_, rfl⟩; have hy15 : y165.length = t157.length - (1 : Int).toNat := (by rw [Ny165.out, List.length_drop] <;> omega); rw [show (t157).drop (1 : Int).toNat = y165 from Ny165.out.symm] at hr15; replace hr15 : Kd.F Kd.string _ _ A15 y165.length y165 := (by rw [hA15]; exact hr15); rw [← hy15, ← hA15, ← hc15] at hcut15; have HO169 := Aside0.mk (show Kd.V Kd.string 9 _ w.heap.size _ (.slice A15 y165.length c15) y165 from Kd.V_mk (by rw [hy15, hc15]; exact Nat.sub_le_sub_right hroom15 _) hr15); have HC169 := Aside0.mk (show y165.length ≤ c15 from by rw [hy15, hc15]; exact Nat.sub_le_sub_right hroom15 _); clear hr15 hC15 hroom15 hi015 hsz15 hc15; have KY15 := Aside0.mk hy15; have KA15 := Aside0.mk hA15; clear hy15 hA15; replace q15 := eq_true q15))
   go_loopg [21] k (fun kq v21 w' => ∃ (x21_1 : Int) (x165001_1 : List (S74)) (u165001 : Value), v21 = .int .i64 x21_1 ∧ Aside0 (impl_DocGet.l0 kq a0 y165 (y165.length : Int) x21_1 (rdOf ByteArray.empty t157 0) x165001_1 = some (r1, r2, r3)) ∧ Aside0 (kq ≤ k) ∧ Aside0 (Kd.V Kd.string 9 w' w.heap.size (fun k_ => some k_ ≠ (u165001 : Value).ownBlock ∧ k_ ≠ gb156 ∧ k_ ≠ gb164) (.slice A15 y165.length c15) y165) ∧ Aside0 (Kd.R k74 74 w' w.heap.size (fun _ => True) u165001 x165001_1) ∧ Aside0 (w'.heap[gb156]? = some (.cells #[.string (⟨#[]⟩ : ByteArray), (.slice none 0 0)] 37 (0, 0))) ∧ Aside0 (w'.heap[gb164]? = some (.cells #[.string (rdOf ByteArray.empty t157 0), u165001] 37 (0, 0))) ∧ Aside0 (Below w.heap.size w w'))
   case atStart => exact ⟨(0), (y161), (.slice Ao10 y161.length co10), u22_, H', ⟨Nat.le_refl _⟩, ⟨by (with_reducible repeat (first | apply Kd.V_alloc | apply Kd.V_drewN | apply Kd.V_drew)); exact Kd.V_mono HO169.out (fun _ hk => ⟨hk.1.1.2, ⟨hk.1.2, hk.2⟩⟩)⟩, ⟨by (with_reducible repeat (first | apply Kd.R_alloc | apply Kd.R_drewN | apply Kd.R_drew)); exact HO163.out⟩, ⟨u44_⟩, ⟨u73_⟩, ⟨u24_⟩⟩
   case round =>
    clear H'
    try clear c1
    try clear p1
    try clear q1
    try clear hx1
    try clear qi1
    try clear p2
    try clear c3
    try clear c3b0
    try clear c3b1
    try clear c4
    try clear c4b0
    try clear c4b1
    try clear c5
    try clear c12
    try clear c15
    try clear q15
    try clear hcz13_0
    try clear hcz13_1
    try clear hfz13_0
    try clear hfz13_1
    try clear hx160_0
    try clear p160
    try clear q15
    try clear q160
    obtain ⟨x21_1, x165001_1, u165001, rfl, HA, HK1, HO_19, HO_165001, BK156, BK164, HB⟩ := hrel
    cases gk with
    | zero => exact absurd HA.out (by simp [impl_DocGet.l0])
    | succ k1 =>
     have H := HA.out
     clear HA
     simp only [impl_DocGet.l0] at H
     by_cases c16 : x21_1 < (y165.length : Int)
     ·rw [if_pos c16] at H
      have c16b0 : decide (x21_1 < (y165.length : Int)) = true := decide_eq_true c16
      clear c16
      by_cases c17 : 0 ≤ x21_1
      ·rw [if_pos c17] at H
       have c17b0 : decide (0 ≤ x21_1) = true := decide_eq_true c17
       clear c17
       by_cases c18 : x21_1 < (y165.length : Int)
       ·rw [if_pos c18] at H
        have c18b0 : decide (x21_1 < (y165.length : Int)) = true := decide_eq_true c18
        clear c18
        replace H := Option.bind_eq_some_iff.mp H
        obtain ⟨⟨t171, t172, t173⟩, A190, H⟩ := H
        replace H : (if x165001_1.length < 4398046511104 then (impl_DocGet.l0 k1 a0 y165 (y165.length : Int) (wrap64 (x21_1 + 1)) (rdOf ByteArray.empty t157 0) (x165001_1 ++ [(⟨t171, t172⟩ : S74)])) else (none)) = some (r1, r2, r3) := H
        have A19 := Aside0.mk A190
        clear A190
        by_cases c20 : x165001_1.length < 4398046511104
        ·rw [if_pos c20] at H
         have LMc20 := Aside0.mk c20
         clear c20
         obtain ⟨y174, hy174⟩ : ∃ y_ : List (S74), y_ = (x165001_1 ++ [(⟨t171, t172⟩ : S74)]) := ⟨_, rfl⟩
         replace H : (impl_DocGet.l0 k1 a0 y165 (y165.length : Int) (wrap64 (x21_1 + 1)) (rdOf ByteArray.empty t157 0) y174) = some (r1, r2, r3) := by first | (rw [hy174]; with_reducible exact H) | (have H2_ := (Option.bind_some _ _).symm.trans H; rw [hy174]; with_reducible exact H2_) | (have H2_ := (Option.bind_some _ _).symm.trans H; with_reducible exact H2_) | with_reducible exact H | (rw [hy174]; exact H) | exact H
         have Ny174 := Aside0.mk hy174
         clear hy174
         have H' := Aside0.mk H
         clear H
         have p170 : 0 ≤ (x21_1 : Int) := of_decide_eq_true u1_
         have q170 : x21_1 < (y165.length : Int) := of_decide_eq_true u1_
         obtain ⟨ad170, e170, hx170_0⟩ := Kd.at_string (Kd.V_reads' HO_19.out).2.2 x21_1 p170 q170
         cases e170
         replace p170 := eq_true p170
         replace q170 := eq_true q170
         go_wp2_with (first | ((with_reducible refine gate_callee (f := 53) rfl ?_); refine goesL_ (some 27) rfl rfl Tryd.func53 u17_ rfl #[.string (rdOf ByteArray.empty y165 x21_1), .string (⟨#[61]⟩ : ByteArray)] rfl u0_ ?_; (with_reducible refine (strings_Cut.calls (rdOf ByteArray.empty y165 x21_1) (⟨#[61]⟩ : ByteArray) t171 t172 t173 _ ?side1 A19.out).mono ?_); (case side1 => exact StopsIn.below HG_.out u24_); rintro e w' ⟨rfl, ⟨nd, rfl⟩⟩; refine ⟨_, rfl, ?_⟩; (try (rw [drewN_self wr]; generalize hq_ : World.drewN wr _ = wr; have n0_ : Aside0 (Kd.R k74 74 wr w.heap.size (fun _ => True) u165001 x165001_1) := ⟨by rw [← hq_]; exact u87_⟩; have n1_ : Aside0 (Kd.V Kd.string 9 wr w.heap.size (fun k_ => some k_ ≠ (u165001 : Value).ownBlock ∧ k_ ≠ gb156 ∧ k_ ≠ gb164) (.slice (some ad170) y165.length c15) y165) := ⟨by rw [← hq_]; exact u92_⟩; have n2_ : Aside0 (wr.heap[gb156]? = some (.cells #[.string (⟨#[]⟩ : ByteArray), .slice none 0 0] 37 (0, 0))) := ⟨by rw [← hq_]; exact u44_⟩; have n3_ : Aside0 (wr.heap[gb164]? = some (.cells #[.string (rdOf ByteArray.empty t157 0), u165001] 37 (0, 0))) := ⟨by rw [← hq_]; exact u73_⟩; have n4_ : Aside0 (Below w.heap.size w wr) := ⟨by rw [← hq_]; exact u24_⟩; clear HO_165001 HO_19 BK156 BK164 HB hq_; have HO_165001 := n0_; have HO_19 := n1_; have BK156 := n2_; have BK164 := n3_; have HB := n4_; clear n0_ n1_ n2_ n3_ n4_)); have hnb21 := NB164_156.out; have hnc21 := NB156_164.out; have hcz22_0 : wr.cell? ⟨gb164, 0, none⟩ = some (.string (rdOf ByteArray.empty t157 0)) := (blk_cell BK164.out 0).trans rfl; have hcz22_1 : wr.cell? ⟨gb164, 1, none⟩ = some (u165001) := (blk_cell BK164.out 1).trans rfl; have hfz22_0 := blk_frozen BK164.out 0; have hfz22_1 := blk_frozen BK164.out 1) | ((with_reducible refine gate_builtin (b := .append) (xs := #[.tmp 32, .tmp 36]) rfl ?_); at_builtin; refine Kd.R_append k74 (w0 := w) w.heap.size rfl (.tmp 32) (.tmp 36) 35 74 (.agg #[(.string ⟨#[]⟩), (.string ⟨#[]⟩)]) 32 rfl Tryd.underlying35 info74 rfl u39_ (by omega) u165001 x165001_1 (⟨t171, t172⟩ : S74) [.string t171, .string t172] (fun _ => True) (fun _ => False) rfl rfl ?aP (fun _ hk => hk.elim) ?aF ?aO ?aB ?aS ?aL ?_; (case aP => exact k74_mkM _ _ _ (⟨t171, t172⟩ : S74)); (case aB => exact u24_); (case aF => exact (fun _ _ => trivial)); (case aO => exact u87_); (case aS => exact (below_size u24_)); (case aL => have := LMc20.out; omega); intro v175 w23 ho hb hg hat; rw [← Ny174.out] at ho; have n0_ := Aside0.mk (Kd.V_afterv (ok := (fun k_ => k_ ≠ gb156 ∧ k_ ≠ gb164)) (by (with_reducible repeat (first | apply Kd.V_alloc | apply Kd.V_drewN | apply Kd.V_drew)); exact Kd.V_mono HO_19.out (fun _ hk => ⟨⟨hk.2.1, hk.2.2⟩, hk.1⟩)) hg hat); have n1_ := Aside0.mk (blk_grown (g := gb156) (o := .cells #[.string (⟨#[]⟩ : ByteArray), .slice none 0 0] 37 (0, 0)) u44_ hg (Kd.R_ne HO_165001.out BK156.out u39_)); have n2_ := Aside0.mk (blk_grown (g := gb164) (o := .cells #[.string (rdOf ByteArray.empty t157 0), u165001] 37 (0, 0)) u73_ hg (Kd.R_ne HO_165001.out BK164.out u39_)); have n3_ := Aside0.mk (hb); have n4_ := Aside0.mk (ho); clear HO_19; clear BK156; clear BK164; clear HB; clear HO_165001; have HO_19 := n0_; have BK156 := n1_; have BK164 := n2_; have HB := n3_; have HO176 := n4_; clear n0_ n1_ n2_ n3_ n4_; clear ho hb hg hat; obtain ⟨Ao24, co24, eo24⟩ := Kd.R_slice HO176.out; subst eo24; have hcz25_0 : w23.cell? ⟨gb164, 0, none⟩ = some (.string (rdOf ByteArray.empty t157 0)) := (blk_cell BK164.out 0).trans rfl; have hcz25_1 : w23.cell? ⟨gb164, 1, none⟩ = some (u165001) := (blk_cell BK164.out 1).trans rfl; have hfz25_0 := blk_frozen BK164.out 0; have hfz25_1 := blk_frozen BK164.out 1))
         go_roundg k1
         case measure => have := HK1.out; omega
         case rel => exact ⟨(wrap64 (x21_1 + 1)), (y174), (.slice Ao24 y174.length co24), u22_, H', ⟨u102_⟩, ⟨by (with_reducible repeat (first | apply Kd.V_alloc | apply Kd.V_drewN | apply Kd.V_drew)); exact Kd.V_mono (Kd.V_far (p := ⟨gb164, 1, none⟩) (Kd.V_mono HO_19.out (fun k_ hk => (⟨hk, hk.1.2⟩ : _ ∧ k_ ≠ gb164))) (fun _ hk => hk.2) (.slice Ao24 y174.length co24)) (fun _ hk => ⟨hk.1.2, ⟨hk.1.1.1, hk.1.1.2⟩⟩)⟩, ⟨by (with_reducible repeat (first | apply Kd.R_alloc | apply Kd.R_drewN | apply Kd.R_drew)); exact Kd.R_mono (Kd.R_far (p := ⟨gb164, 1, none⟩) (Kd.R_types HO176.out BK164.out u39_) (fun _ hk => hk.2) (.slice Ao24 y174.length co24)) (fun _ hk => trivial)⟩, ⟨by (with_reducible repeat (first | refine blk_drewN ?_ _ | refine blk_drew ?_ | refine blk_alloc ?_ _)); refine blk_far ?_ NB156_164.out _; (with_reducible repeat (first | refine blk_drewN ?_ _ | refine blk_drew ?_ | refine blk_alloc ?_ _)); exact BK156.out⟩, ⟨by (with_reducible repeat (first | refine blk_drewN ?_ _ | refine blk_drew ?_ | refine blk_alloc ?_ _)); refine blk_put (cs := #[.string (rdOf ByteArray.empty t157 0), u165001]) ?_ 1 _ rfl; (with_reducible repeat (first | refine blk_drewN ?_ _ | refine blk_drew ?_ | refine blk_alloc ?_ _)); exact BK164.out⟩, ⟨u24_⟩⟩
        ·rw [if_neg c20] at H
         exact absurd H u89_
       ·rw [if_neg c18] at H
        exact absurd H u89_
      ·rw [if_neg c17] at H
       exact absurd H u89_
     ·rw [if_neg c16] at H
      have c16b0 : decide (x21_1 < (y165.length : Int)) = false := decide_eq_false c16
      clear c16
      replace H := Option.bind_eq_some_iff.mp H
      obtain ⟨t177, A260, H⟩ := H
      replace H : (if t177 = true then ((impl_DocPut.f k1 (rdOf ByteArray.empty t157 0) x165001_1).bind fun t178 => (if t178.toList = a0.toList then (some ((rdOf ByteArray.empty t157 0), x165001_1, true)) else (some ((⟨#[]⟩ : ByteArray), ([] : List (S74)), false)))) else (some ((⟨#[]⟩ : ByteArray), ([] : List (S74)), false))) = some (r1, r2, r3) := H
      have A26 := Aside0.mk A260
      clear A260
      by_cases c27 : t177 = true
      ·subst c27
       have H1 : ((impl_DocPut.f k1 (rdOf ByteArray.empty t157 0) x165001_1).bind fun t178 => (if t178.toList = a0.toList then (some ((rdOf ByteArray.empty t157 0), x165001_1, true)) else (some ((⟨#[]⟩ : ByteArray), ([] : List (S74)), false)))) = some (r1, r2, r3) := by rw [if_pos rfl] at H; exact H
       clear H
       have H := H1
       clear H1
       replace H := Option.bind_eq_some_iff.mp H
       obtain ⟨t178, A280, H⟩ := H
       replace H : (if t178.toList = a0.toList then (some ((rdOf ByteArray.empty t157 0), x165001_1, true)) else (some ((⟨#[]⟩ : ByteArray), ([] : List (S74)), false))) = some (r1, r2, r3) := H
       have A28 := Aside0.mk A280
       clear A280
       by_cases c29 : t178.toList = a0.toList
       ·rw [if_pos c29] at H
        have c29b0 : (t178.toList == a0.toList) = true := beq_iff_eq.mpr c29
        have c29b1 : (t178.toList != a0.toList) = false := bne_eq_false_iff_eq.mpr c29
        clear c29
        simp only [Option.some.injEq, Prod.mk.injEq] at H
        obtain ⟨rfl, rfl, rfl⟩ := H
        have hnb30 := NB164_156.out
        have hnc30 := NB156_164.out
        have hcz31_0 : wr.cell? ⟨gb164, 0, none⟩ = some (.string (rdOf ByteArray.empty t157 0)) := (blk_cell BK164.out 0).trans rfl
        have hcz31_1 : wr.cell? ⟨gb164, 1, none⟩ = some (u165001) := (blk_cell BK164.out 1).trans rfl
        have hfz31_0 := blk_frozen BK164.out 0
        have hfz31_1 := blk_frozen BK164.out 1
        obtain ⟨Ao32, co32, eo32⟩ := Kd.R_slice HO_165001.out
        subst eo32
        go_wp2_with (first | ((with_reducible refine gate_callee (f := 54) rfl ?_); refine goesL_ (some 41) rfl rfl Tryd.func54 u17_ rfl #[.agg #[.string (rdOf ByteArray.empty t157 0), .slice Ao32 x165001_1.length co32]] rfl u0_ ?_; (with_reducible refine (impl_wellFormed.calls k1 (rdOf ByteArray.empty t157 0) _ _ x165001_1 true _ ?side1 ?side2 A26.out).mono ?_); (case side1 => repeat (first | exact (Kd.R_reads' HO_165001.out).2.2 | (with_reducible refine Kd.C_alloc ?_ _) | (with_reducible refine Kd.C_drewN ?_ _) | (with_reducible refine Kd.C_drew ?_))); (case side2 => exact (Kd.R_reads' HO_165001.out).2.1); rintro e w33 ⟨rfl, hb⟩; refine ⟨_, rfl, ?_⟩; have n0_ := Aside0.mk (Kd.V_below u92_ hb); have n1_ := Aside0.mk (Kd.R_below u87_ hb); have n2_ := Aside0.mk (blk_below (g := gb156) (o := .cells #[.string (⟨#[]⟩ : ByteArray), .slice none 0 0] 37 (0, 0)) u44_ hb); have n3_ := Aside0.mk (blk_below (g := gb164) (o := .cells #[.string (rdOf ByteArray.empty t157 0), .slice Ao32 x165001_1.length co32] 37 (0, 0)) u73_ hb); have n4_ := Aside0.mk (below_step u24_ hb); clear HO_19; clear HO_165001; clear BK156; clear BK164; clear HB; have HO_19 := n0_; have HO_165001 := n1_; have BK156 := n2_; have BK164 := n3_; have HB := n4_; clear n0_ n1_ n2_ n3_ n4_; (try clear hb); (try clear hb2); (try clear hk); (try clear hi); have hcz34_0 : w33.cell? ⟨gb164, 0, none⟩ = some (.string (rdOf ByteArray.empty t157 0)) := (blk_cell BK164.out 0).trans rfl; have hcz34_1 : w33.cell? ⟨gb164, 1, none⟩ = some (.slice Ao32 x165001_1.length co32) := (blk_cell BK164.out 1).trans rfl; have hfz34_0 := blk_frozen BK164.out 0; have hfz34_1 := blk_frozen BK164.out 1) | (go_at_call 27; (with_reducible refine (impl_DocPut.calls k1 (rdOf ByteArray.empty t157 0) _ _ x165001_1 t178 _ ?side1 ?side2 A28.out).mono ?_); (case side1 => repeat (first | exact (Kd.R_reads' HO_165001.out).2.2 | (with_reducible refine Kd.C_alloc ?_ _) | (with_reducible refine Kd.C_drewN ?_ _) | (with_reducible refine Kd.C_drew ?_))); (case side2 => exact (Kd.R_reads' HO_165001.out).2.1); rintro e w35 ⟨rfl, hb⟩; have n0_ := Aside0.mk (Kd.V_below u92_ hb); have n1_ := Aside0.mk (Kd.R_below u87_ hb); have n2_ := Aside0.mk (blk_below (g := gb156) (o := .cells #[.string (⟨#[]⟩ : ByteArray), .slice none 0 0] 37 (0, 0)) u44_ hb); have n3_ := Aside0.mk (blk_below (g := gb164) (o := .cells #[.string (rdOf ByteArray.empty t157 0), .slice Ao32 x165001_1.length co32] 37 (0, 0)) u73_ hb); have n4_ := Aside0.mk (below_step u24_ hb); clear HO_19; clear HO_165001; clear BK156; clear BK164; clear HB; have HO_19 := n0_; have HO_165001 := n1_; have BK156 := n2_; have BK164 := n3_; have HB := n4_; clear n0_ n1_ n2_ n3_ n4_; (try clear hb); (try clear hb2); (try clear hk); (try clear hi); have hcz36_0 : w35.cell? ⟨gb164, 0, none⟩ = some (.string (rdOf ByteArray.empty t157 0)) := (blk_cell BK164.out 0).trans rfl; have hcz36_1 : w35.cell? ⟨gb164, 1, none⟩ = some (.slice Ao32 x165001_1.length co32) := (blk_cell BK164.out 1).trans rfl; have hfz36_0 := blk_frozen BK164.out 0; have hfz36_1 := blk_frozen BK164.out 1; have hcz37_0 : w35.cell? ⟨gb156, 0, none⟩ = some (.string (⟨#[]⟩ : ByteArray)) := (blk_cell BK156.out 0).trans rfl; have hcz37_1 : w35.cell? ⟨gb156, 1, none⟩ = some (.slice none 0 0) := (blk_cell BK156.out 1).trans rfl; have hfz37_0 := blk_frozen BK156.out 0; have hfz37_1 := blk_frozen BK156.out 1))
        refine bodyPost_ret (results_ct rfl _ _ gb156 37 #[.string (rdOf ByteArray.empty t157 0), .slice Ao32 x165001_1.length co32] (0, 0) _ rfl (by (with_reducible repeat (first | refine blk_drewN ?_ _ | refine blk_drew ?_ | refine blk_alloc ?_ _)); refine blk_put (cs := #[.string (rdOf ByteArray.empty t157 0), .slice none 0 0]) ?_ 1 _ rfl; (with_reducible repeat (first | refine blk_drewN ?_ _ | refine blk_drew ?_ | refine blk_alloc ?_ _)); refine blk_put (cs := #[.string (⟨#[]⟩ : ByteArray), .slice none 0 0]) ?_ 0 _ rfl; (with_reducible repeat (first | refine blk_drewN ?_ _ | refine blk_drew ?_ | refine blk_alloc ?_ _)); exact BK156.out) Tryd.underlying37 rfl u17_) rfl ?_
        exact ⟨_, u7_, by (with_reducible repeat (first | apply Kd.R_alloc | apply Kd.R_drewN | apply Kd.R_drew)); exact Kd.R_mono (Kd.R_far (p := ⟨gb156, 1, none⟩) (Kd.R_far (p := ⟨gb156, 0, none⟩) (Kd.R_types HO_165001.out BK156.out u39_) (fun _ hk => hk.2) (.string (rdOf ByteArray.empty t157 0))) (fun _ hk => hk.2) (.slice Ao32 x165001_1.length co32)) (fun _ hk => trivial), u24_⟩
       ·rw [if_neg c29] at H
        have c29b0 : (t178.toList == a0.toList) = false := beq_eq_false_iff_ne.mpr c29
        have c29b1 : (t178.toList != a0.toList) = true := bne_iff_ne.mpr c29
        simp only [Option.some.injEq, Prod.mk.injEq] at H
        obtain ⟨rfl, rfl, rfl⟩ := H
        have hnb38 := NB164_156.out
        have hnc38 := NB156_164.out
        have hcz39_0 : wr.cell? ⟨gb164, 0, none⟩ = some (.string (rdOf ByteArray.empty t157 0)) := (blk_cell BK164.out 0).trans rfl
        have hcz39_1 : wr.cell? ⟨gb164, 1, none⟩ = some (u165001) := (blk_cell BK164.out 1).trans rfl
        have hfz39_0 := blk_frozen BK164.out 0
        have hfz39_1 := blk_frozen BK164.out 1
        obtain ⟨Ao40, co40, eo40⟩ := Kd.R_slice HO_165001.out
        subst eo40
        go_wp2_with (first | ((with_reducible refine gate_callee (f := 54) rfl ?_); refine goesL_ (some 41) rfl rfl Tryd.func54 u17_ rfl #[.agg #[.string (rdOf ByteArray.empty t157 0), .slice Ao40 x165001_1.length co40]] rfl u0_ ?_; (with_reducible refine (impl_wellFormed.calls k1 (rdOf ByteArray.empty t157 0) _ _ x165001_1 true _ ?side1 ?side2 A26.out).mono ?_); (case side1 => repeat (first | exact (Kd.R_reads' HO_165001.out).2.2 | (with_reducible refine Kd.C_alloc ?_ _) | (with_reducible refine Kd.C_drewN ?_ _) | (with_reducible refine Kd.C_drew ?_))); (case side2 => exact (Kd.R_reads' HO_165001.out).2.1); rintro e w41 ⟨rfl, hb⟩; refine ⟨_, rfl, ?_⟩; have n0_ := Aside0.mk (Kd.V_below u92_ hb); have n1_ := Aside0.mk (Kd.R_below u87_ hb); have n2_ := Aside0.mk (blk_below (g := gb156) (o := .cells #[.string (⟨#[]⟩ : ByteArray), .slice none 0 0] 37 (0, 0)) u44_ hb); have n3_ := Aside0.mk (blk_below (g := gb164) (o := .cells #[.string (rdOf ByteArray.empty t157 0), .slice Ao40 x165001_1.length co40] 37 (0, 0)) u73_ hb); have n4_ := Aside0.mk (below_step u24_ hb); clear HO_19; clear HO_165001; clear BK156; clear BK164; clear HB; have HO_19 := n0_; have HO_165001 := n1_; have BK156 := n2_; have BK164 := n3_; have HB := n4_; clear n0_ n1_ n2_ n3_ n4_; (try clear hb); (try clear hb2); (try clear hk); (try clear hi); have hcz42_0 : w41.cell? ⟨gb164, 0, none⟩ = some (.string (rdOf ByteArray.empty t157 0)) := (blk_cell BK164.out 0).trans rfl; have hcz42_1 : w41.cell? ⟨gb164, 1, none⟩ = some (.slice Ao40 x165001_1.length co40) := (blk_cell BK164.out 1).trans rfl; have hfz42_0 := blk_frozen BK164.out 0; have hfz42_1 := blk_frozen BK164.out 1) | (go_at_call 27; (with_reducible refine (impl_DocPut.calls k1 (rdOf ByteArray.empty t157 0) _ _ x165001_1 t178 _ ?side1 ?side2 A28.out).mono ?_); (case side1 => repeat (first | exact (Kd.R_reads' HO_165001.out).2.2 | (with_reducible refine Kd.C_alloc ?_ _) | (with_reducible refine Kd.C_drewN ?_ _) | (with_reducible refine Kd.C_drew ?_))); (case side2 => exact (Kd.R_reads' HO_165001.out).2.1); rintro e w43 ⟨rfl, hb⟩; have n0_ := Aside0.mk (Kd.V_below u92_ hb); have n1_ := Aside0.mk (Kd.R_below u87_ hb); have n2_ := Aside0.mk (blk_below (g := gb156) (o := .cells #[.string (⟨#[]⟩ : ByteArray), .slice none 0 0] 37 (0, 0)) u44_ hb); have n3_ := Aside0.mk (blk_below (g := gb164) (o := .cells #[.string (rdOf ByteArray.empty t157 0), .slice Ao40 x165001_1.length co40] 37 (0, 0)) u73_ hb); have n4_ := Aside0.mk (below_step u24_ hb); clear HO_19; clear HO_165001; clear BK156; clear BK164; clear HB; have HO_19 := n0_; have HO_165001 := n1_; have BK156 := n2_; have BK164 := n3_; have HB := n4_; clear n0_ n1_ n2_ n3_ n4_; (try clear hb); (try clear hb2); (try clear hk); (try clear hi); have hcz44_0 : w43.cell? ⟨gb156, 0, none⟩ = some (.string (⟨#[]⟩ : ByteArray)) := (blk_cell BK156.out 0).trans rfl; have hcz44_1 : w43.cell? ⟨gb156, 1, none⟩ = some (.slice none 0 0) := (blk_cell BK156.out 1).trans rfl; have hfz44_0 := blk_frozen BK156.out 0; have hfz44_1 := blk_frozen BK156.out 1))
        refine bodyPost_ret (results_ct rfl _ _ gb156 37 #[.string (⟨#[]⟩ : ByteArray), .slice none 0 0] (0, 0) _ rfl u94_ Tryd.underlying37 rfl u17_) rfl ?_
        exact ⟨_, u7_, u69_, u24_⟩
      ·replace c27 := Bool.eq_false_iff.mpr c27
       subst c27
       have H1 : (some ((⟨#[]⟩ : ByteArray), ([] : List (S74)), false)) = some (r1, r2, r3) := by rw [if_neg (show ¬ (false = true) by decide)] at H; exact H
       clear H
       have H := H1
       clear H1
       simp only [Option.some.injEq, Prod.mk.injEq] at H
       obtain ⟨rfl, rfl, rfl⟩ := H
       have hnb45 := NB164_156.out
       have hnc45 := NB156_164.out
       have hcz46_0 : wr.cell? ⟨gb164, 0, none⟩ = some (.string (rdOf ByteArray.empty t157 0)) := (blk_cell BK164.out 0).trans rfl
       have hcz46_1 : wr.cell? ⟨gb164, 1, none⟩ = some (u165001) := (blk_cell BK164.out 1).trans rfl
       have hfz46_0 := blk_frozen BK164.out 0
       have hfz46_1 := blk_frozen BK164.out 1
       obtain ⟨Ao47, co47, eo47⟩ := Kd.R_slice HO_165001.out
       subst eo47
       go_wp2_with (first | ((with_reducible refine gate_callee (f := 54) rfl ?_); refine goesL_ (some 41) rfl rfl Tryd.func54 u17_ rfl #[.agg #[.string (rdOf ByteArray.empty t157 0), .slice Ao47 x165001_1.length co47]] rfl u0_ ?_; (with_reducible refine (impl_wellFormed.calls k1 (rdOf ByteArray.empty t157 0) _ _ x165001_1 false _ ?side1 ?side2 A26.out).mono ?_); (case side1 => repeat (first | exact (Kd.R_reads' HO_165001.out).2.2 | (with_reducible refine Kd.C_alloc ?_ _) | (with_reducible refine Kd.C_drewN ?_ _) | (with_reducible refine Kd.C_drew ?_))); (case side2 => exact (Kd.R_reads' HO_165001.out).2.1); rintro e w48 ⟨rfl, hb⟩; refine ⟨_, rfl, ?_⟩; have n0_ := Aside0.mk (Kd.V_below u92_ hb); have n1_ := Aside0.mk (Kd.R_below u87_ hb); have n2_ := Aside0.mk (blk_below (g := gb156) (o := .cells #[.string (⟨#[]⟩ : ByteArray), .slice none 0 0] 37 (0, 0)) u44_ hb); have n3_ := Aside0.mk (blk_below (g := gb164) (o := .cells #[.string (rdOf ByteArray.empty t157 0), .slice Ao47 x165001_1.length co47] 37 (0, 0)) u73_ hb); have n4_ := Aside0.mk (below_step u24_ hb); clear HO_19; clear HO_165001; clear BK156; clear BK164; clear HB; have HO_19 := n0_; have HO_165001 := n1_; have BK156 := n2_; have BK164 := n3_; have HB := n4_; clear n0_ n1_ n2_ n3_ n4_; (try clear hb); (try clear hb2); (try clear hk); (try clear hi); have hcz49_0 : w48.cell? ⟨gb156, 0, none⟩ = some (.string (⟨#[]⟩ : ByteArray)) := (blk_cell BK156.out 0).trans rfl; have hcz49_1 : w48.cell? ⟨gb156, 1, none⟩ = some (.slice none 0 0) := (blk_cell BK156.out 1).trans rfl; have hfz49_0 := blk_frozen BK156.out 0; have hfz49_1 := blk_frozen BK156.out 1))
       refine bodyPost_ret (results_ct rfl _ _ gb156 37 #[.string (⟨#[]⟩ : ByteArray), .slice none 0 0] (0, 0) _ rfl u94_ Tryd.underlying37 rfl u17_) rfl ?_
       exact ⟨_, u7_, u69_, u24_⟩
  ·rw [if_neg c4] at H
   exact absurd H u89_
 ·rw [if_neg c3] at H
  exact absurd H u89_

end Go.Proofs.YtglcgkbecfmegaaDoor.PFnDoc
