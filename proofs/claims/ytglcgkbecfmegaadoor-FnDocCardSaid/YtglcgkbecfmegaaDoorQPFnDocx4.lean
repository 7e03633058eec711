/- Contracts of Go functions that the law FnDoc reaches: each is told as a plain Lean function, with the walk that shows it; no condition beyond what each states. Written by a program of this session round the kit's printer. -/
import Derived.Test.YtglcgkbecfmegaaDoorQPFnDocx0
import Derived.Test.YtglcgkbecfmegaaDoorQPFnDocx2
import Derived.Test.YtglcgkbecfmegaaDoorQPFnDocx3
namespace Go.Proofs.YtglcgkbecfmegaaDoor.PFnDoc
open Go.RowKit Go.Proofs.YtglcgkbecfmegaaDoorW.PrintWords Go.Proofs.YtglcgkbecfmegaaDoorW.PrintLast Go.Proofs.YtglcgkbecfmegaaDoorW.PrintMore
attribute [local go_sem] run_str_geq run_str_leq max2_int min2_int max_two min_two max_three min_three max_four min_four   -- for this text's walks alone
set_option linter.unusedVariables false
set_option linter.unusedSimpArgs false

/-! ### spec_l2DocPut: function 51 -/
def spec_l2DocPut.l0 : Nat → ByteArray → Int → ByteArray → List (S74) → Option (ByteArray)
 | 0, _, _, _, _ => none
 | k + 1, x3, x4, x121000, x121001 => if x4 < (x121001.length : Int) then (if x3.size + 1 ≤ 9223372036854775807 then (if 0 ≤ x4 then (if (x3 ++ (⟨#[10]⟩ : ByteArray)).size + ((rd_T74 x121001 x4).f0).size ≤ 9223372036854775807 then (if ((x3 ++ (⟨#[10]⟩ : ByteArray)) ++ ((rd_T74 x121001 x4).f0)).size + 1 ≤ 9223372036854775807 then (if (((x3 ++ (⟨#[10]⟩ : ByteArray)) ++ ((rd_T74 x121001 x4).f0)) ++ (⟨#[61]⟩ : ByteArray)).size + ((rd_T74 x121001 x4).f1).size ≤ 9223372036854775807 then (spec_l2DocPut.l0 k ((((x3 ++ (⟨#[10]⟩ : ByteArray)) ++ ((rd_T74 x121001 x4).f0)) ++ (⟨#[61]⟩ : ByteArray)) ++ ((rd_T74 x121001 x4).f1)) (wrap64 (x4 + 1)) x121000 x121001) else (none)) else (none)) else (none)) else (none)) else (none)) else (some x3)
def spec_l2DocPut.f (k : Nat) (a0_0 : ByteArray) (l0_1 : List (S74)) : Option (ByteArray) := spec_l2DocPut.l0 k a0_0 0 a0_0 l0_1
theorem spec_l2DocPut.mono_l : ∀ k, (∀ y0 y1 y2 y3, LeO (spec_l2DocPut.l0 k y0 y1 y2 y3) (spec_l2DocPut.l0 (k + 1) y0 y1 y2 y3))
 | 0 => fun _ _ _ _ r h => by simp [spec_l2DocPut.l0] at h
 | k + 1 => by
  have ih0 := spec_l2DocPut.mono_l k
  ·intro y0 y1 y2 y3
   unfold spec_l2DocPut.l0
   repeat' first
   | (with_reducible exact ih0 _ _ _ _)
   | (with_reducible exact LeO.refl _)
   | (with_reducible exact LeO.none _)
   | (with_reducible refine LeO.ite ?_ ?_)
   | (with_reducible refine LeO.bind ?_ (fun _ => ?_))
   | exact ih0 _ _ _ _
   | exact LeO.none _
   | refine LeO.ite ?_ ?_
   | refine LeO.bind ?_ (fun _ => ?_)
theorem spec_l2DocPut.mono : ∀ a0 a1 k, LeO (spec_l2DocPut.f k a0 a1) (spec_l2DocPut.f (k + 1) a0 a1) := by
 intro a0 a1 k
 have ih0 := spec_l2DocPut.mono_l k
 unfold spec_l2DocPut.f
 repeat' first
   | (with_reducible exact ih0 _ _ _ _)
   | (with_reducible exact LeO.refl _)
   | (with_reducible exact LeO.none _)
   | (with_reducible refine LeO.ite ?_ ?_)
   | (with_reducible refine LeO.bind ?_ (fun _ => ?_))
   | exact ih0 _ _ _ _
   | exact LeO.none _
   | refine LeO.ite ?_ ?_
   | refine LeO.bind ?_ (fun _ => ?_)
set_option maxHeartbeats 8000000 in
set_option maxRecDepth 100000 in
theorem spec_l2DocPut.calls (k : Nat) (a0_0 : ByteArray) (A0_1 : Option Addr) (c0_1 : Nat) (l0_1 : List (S74)) (r : ByteArray) (w : World) (hr0_1 : Kd.C k74 w A0_1 l0_1.length l0_1) (hc0_1 : l0_1.length ≤ c0_1) (h : spec_l2DocPut.f k a0_0 l0_1 = some r) :
  Calls Tryd.prog 51 #[.agg #[.string a0_0, .slice A0_1 l0_1.length c0_1]] w fun e w' => e = .returned (.string r) ∧ Below w.heap.size w w' := by
 have hu37 := Tryd.underlying37
 have HR0_1 := Aside0.mk hr0_1
 have HC0_1 := Aside0.mk hc0_1
 clear hr0_1 hc0_1
 have HB := Aside0.mk (Below.refl w.heap.size w)
 have H : (spec_l2DocPut.l0 k a0_0 0 a0_0 l0_1) = some r := h
 clear h
 have H' := Aside0.mk H
 clear H
 go_enter Tryd.func51, Tryd.ntmps51
 go_wp2_with (first | ((with_reducible refine gate_dst (N := 1) rfl ?_); refine box_event ?hg (N := 1) ?hd (cs := #[.string a0_0, .slice A0_1 l0_1.length c0_1]) (t := 37) ?hr ?_; (case hd => rfl); (case hg => rfl); (case hr => first | (go_simp; done) | (go_simp; rfl)); intro gb120 hg w2 hbox hb; have n0_ := Aside0.mk (below_step u3_ hb); have n1_ := Aside0.mk (hbox); have n2_ := Aside0.mk ((by rw [hg]; exact (below_size u3_) : w.heap.size ≤ gb120)); have n3_ := n2_; clear HB; have HB := n0_; have BK120 := n1_; have GW120 := n2_; have GE120 := n3_; clear n0_ n1_ n2_ n3_; clear hb hbox hg; have hcz3_0 : w2.cell? ⟨gb120, 0, none⟩ = some (.string a0_0) := (blk_cell BK120.out 0).trans rfl; have hcz3_1 : w2.cell? ⟨gb120, 1, none⟩ = some (.slice A0_1 l0_1.length c0_1) := (blk_cell BK120.out 1).trans rfl; have hfz3_0 := blk_frozen BK120.out 0; have hfz3_1 := blk_frozen BK120.out 1))
 repeat (go_quiet (first | ((with_reducible refine gate_dst (N := 1) rfl ?_); refine box_event ?hg (N := 1) ?hd (cs := #[.string a0_0, .slice A0_1 l0_1.length c0_1]) (t := 37) ?hr ?_; (case hd => rfl); (case hg => rfl); (case hr => first | (go_simp; done) | (go_simp; rfl)); intro gb120 hg w2 hbox hb; have n0_ := Aside0.mk (below_step u3_ hb); have n1_ := Aside0.mk (hbox); have n2_ := Aside0.mk ((by rw [hg]; exact (below_size u3_) : w.heap.size ≤ gb120)); have n3_ := n2_; clear HB; have HB := n0_; have BK120 := n1_; have GW120 := n2_; have GE120 := n3_; clear n0_ n1_ n2_ n3_; clear hb hbox hg; have hcz3_0 : w2.cell? ⟨gb120, 0, none⟩ = some (.string a0_0) := (blk_cell BK120.out 0).trans rfl; have hcz3_1 : w2.cell? ⟨gb120, 1, none⟩ = some (.slice A0_1 l0_1.length c0_1) := (blk_cell BK120.out 1).trans rfl; have hfz3_0 := blk_frozen BK120.out 0; have hfz3_1 := blk_frozen BK120.out 1)); try go_wp2_with (first | ((with_reducible refine gate_dst (N := 1) rfl ?_); refine box_event ?hg (N := 1) ?hd (cs := #[.string a0_0, .slice A0_1 l0_1.length c0_1]) (t := 37) ?hr ?_; (case hd => rfl); (case hg => rfl); (case hr => first | (go_simp; done) | (go_simp; rfl)); intro gb120 hg w2 hbox hb; have n0_ := Aside0.mk (below_step u3_ hb); have n1_ := Aside0.mk (hbox); have n2_ := Aside0.mk ((by rw [hg]; exact (below_size u3_) : w.heap.size ≤ gb120)); have n3_ := Aside0.mk ((by rw [hg]; exact (below_size u3_) : w.heap.size ≤ gb120)); clear HB; have HB := n0_; have BK120 := n1_; have GW120 := n2_; have GE120 := n3_; clear n0_ n1_ n2_ n3_; clear hb hbox hg; have hcz3_0 : w2.cell? ⟨gb120, 0, none⟩ = some (.string a0_0) := (blk_cell BK120.out 0).trans rfl; have hcz3_1 : w2.cell? ⟨gb120, 1, none⟩ = some (.slice A0_1 l0_1.length c0_1) := (blk_cell BK120.out 1).trans rfl; have hfz3_0 := blk_frozen BK120.out 0; have hfz3_1 := blk_frozen BK120.out 1)))
 go_loopg [3, 4] k (fun kq v3 v4 w' => ∃ (x3_1 : ByteArray) (x4_1 : Int), v3 = .string x3_1 ∧ v4 = .int .i64 x4_1 ∧ Aside0 (spec_l2DocPut.l0 kq x3_1 x4_1 a0_0 l0_1 = some r) ∧ Aside0 (kq ≤ k) ∧ Aside0 (w'.heap[gb120]? = some (.cells #[.string a0_0, (.slice A0_1 l0_1.length c0_1)] 37 (0, 0))) ∧ Aside0 (Below w.heap.size w w'))
 case atStart => exact ⟨(a0_0), (0), u22_, u22_, H', ⟨Nat.le_refl _⟩, ⟨by (with_reducible repeat (first | refine blk_drewN ?_ _ | refine blk_drew ?_ | refine blk_alloc ?_ _)); exact BK120.out⟩, ⟨u105_⟩⟩
 case round =>
  clear H'
  try clear p2
  try clear hcz3_0
  try clear hcz3_1
  try clear hfz3_0
  try clear hfz3_1
  obtain ⟨x3_1, x4_1, rfl, rfl, HA, HK1, BK120, HB⟩ := hrel
  cases gk with
  | zero => exact absurd HA.out (by simp [spec_l2DocPut.l0])
  | succ k1 =>
   have H := HA.out
   clear HA
   simp only [spec_l2DocPut.l0] at H
   by_cases c4 : x4_1 < (l0_1.length : Int)
   ·rw [if_pos c4] at H
    have c4b0 : decide (x4_1 < (l0_1.length : Int)) = true := decide_eq_true c4
    clear c4
    by_cases c5 : x3_1.size + 1 ≤ 9223372036854775807
    ·rw [if_pos c5] at H
     have c5b0 := eq_true c5
     have c5b1 : decide (x3_1.size + 1 ≤ 9223372036854775807) = true := decide_eq_true c5
     try have c5b2 : (9223372036854775807 < x3_1.size + 1) = False := eq_false (Nat.not_lt.2 c5)
     by_cases c6 : 0 ≤ x4_1
     ·rw [if_pos c6] at H
      have c6b0 : decide (0 ≤ x4_1) = true := decide_eq_true c6
      clear c6
      by_cases c7 : (x3_1 ++ (⟨#[10]⟩ : ByteArray)).size + ((rd_T74 l0_1 x4_1).f0).size ≤ 9223372036854775807
      ·rw [if_pos c7] at H
       have c7b0 := eq_true c7
       have c7b1 : decide ((x3_1 ++ (⟨#[10]⟩ : ByteArray)).size + ((rd_T74 l0_1 x4_1).f0).size ≤ 9223372036854775807) = true := decide_eq_true c7
       try have c7b2 : (9223372036854775807 < (x3_1 ++ (⟨#[10]⟩ : ByteArray)).size + ((rd_T74 l0_1 x4_1).f0).size) = False := eq_false (Nat.not_lt.2 c7)
       try have c7b3 := c7; try simp only [ByteArray.size_append, size_lit, List.size_toArray, List.length_cons, List.length_nil, Nat.zero_add, Nat.reduceAdd] at c7b3; try have c7b4 := eq_true c7b3; try have c7b5 := decide_eq_true c7b3; try have c7b6 := eq_false (Nat.not_lt.2 c7b3)
       try have c7b7 := c7b3; try simp at c7b7; try have c7b8 := eq_true c7b7; try have c7b9 := decide_eq_true c7b7; try have c7bA := eq_false (Nat.not_lt.2 c7b7)
       by_cases c8 : ((x3_1 ++ (⟨#[10]⟩ : ByteArray)) ++ ((rd_T74 l0_1 x4_1).f0)).size + 1 ≤ 9223372036854775807
       ·rw [if_pos c8] at H
        have c8b0 := eq_true c8
        have c8b1 : decide (((x3_1 ++ (⟨#[10]⟩ : ByteArray)) ++ ((rd_T74 l0_1 x4_1).f0)).size + 1 ≤ 9223372036854775807) = true := decide_eq_true c8
        try have c8b2 : (9223372036854775807 < ((x3_1 ++ (⟨#[10]⟩ : ByteArray)) ++ ((rd_T74 l0_1 x4_1).f0)).size + 1) = False := eq_false (Nat.not_lt.2 c8)
        try have c8b3 := c8; try simp only [ByteArray.size_append, size_lit, List.size_toArray, List.length_cons, List.length_nil, Nat.zero_add, Nat.reduceAdd] at c8b3; try have c8b4 := eq_true c8b3; try have c8b5 := decide_eq_true c8b3; try have c8b6 := eq_false (Nat.not_lt.2 c8b3)
        try have c8b7 := c8b3; try simp at c8b7; try have c8b8 := eq_true c8b7; try have c8b9 := decide_eq_true c8b7; try have c8bA := eq_false (Nat.not_lt.2 c8b7)
        by_cases c9 : (((x3_1 ++ (⟨#[10]⟩ : ByteArray)) ++ ((rd_T74 l0_1 x4_1).f0)) ++ (⟨#[61]⟩ : ByteArray)).size + ((rd_T74 l0_1 x4_1).f1).size ≤ 9223372036854775807
        ·rw [if_pos c9] at H
         have c9b0 := eq_true c9
         have c9b1 : decide ((((x3_1 ++ (⟨#[10]⟩ : ByteArray)) ++ ((rd_T74 l0_1 x4_1).f0)) ++ (⟨#[61]⟩ : ByteArray)).size + ((rd_T74 l0_1 x4_1).f1).size ≤ 9223372036854775807) = true := decide_eq_true c9
         try have c9b2 : (9223372036854775807 < (((x3_1 ++ (⟨#[10]⟩ : ByteArray)) ++ ((rd_T74 l0_1 x4_1).f0)) ++ (⟨#[61]⟩ : ByteArray)).size + ((rd_T74 l0_1 x4_1).f1).size) = False := eq_false (Nat.not_lt.2 c9)
         try have c9b3 := c9; try simp only [ByteArray.size_append, size_lit, List.size_toArray, List.length_cons, List.length_nil, Nat.zero_add, Nat.reduceAdd] at c9b3; try have c9b4 := eq_true c9b3; try have c9b5 := decide_eq_true c9b3; try have c9b6 := eq_false (Nat.not_lt.2 c9b3)
         try have c9b7 := c9b3; try simp at c9b7; try have c9b8 := eq_true c9b7; try have c9b9 := decide_eq_true c9b7; try have c9bA := eq_false (Nat.not_lt.2 c9b7)
         have H' := Aside0.mk H
         clear H
         have hcz10_0 : wr.cell? ⟨gb120, 0, none⟩ = some (.string a0_0) := (blk_cell BK120.out 0).trans rfl
         have hcz10_1 : wr.cell? ⟨gb120, 1, none⟩ = some (.slice A0_1 l0_1.length c0_1) := (blk_cell BK120.out 1).trans rfl
         have hfz10_0 := blk_frozen BK120.out 0
         have hfz10_1 := blk_frozen BK120.out 1
         have p121 : 0 ≤ (x4_1 : Int) := of_decide_eq_true u1_
         have q121 : x4_1 < (l0_1.length : Int) := of_decide_eq_true u1_
         obtain ⟨ad121, e121, hx121_0, hx121_1⟩ := at_T74 HR0_1.out x4_1 p121 q121
         cases e121
         replace hx121_0 := (HB.out.cell (World.block_lt_of_cell? w _ hx121_0)).trans hx121_0
         replace hx121_1 := (HB.out.cell (World.block_lt_of_cell? w _ hx121_1)).trans hx121_1
         replace p121 := eq_true p121
         replace q121 := eq_true q121
         have p122 : 0 ≤ (x4_1 : Int) := of_decide_eq_true u1_
         have q122 : x4_1 < (l0_1.length : Int) := of_decide_eq_true u1_
         obtain ⟨ad122, e122, hx122_0, hx122_1⟩ := at_T74 HR0_1.out x4_1 p122 q122
         obtain rfl : ad121 = ad122 := (by injection e122)
         replace hx122_0 := (HB.out.cell (World.block_lt_of_cell? w _ hx122_0)).trans hx122_0
         replace hx122_1 := (HB.out.cell (World.block_lt_of_cell? w _ hx122_1)).trans hx122_1
         replace p122 := eq_true p122
         replace q122 := eq_true q122
         go_wp2
         repeat (go_quiet (fail); try go_wp2)
         go_roundg k1
         case measure => have := HK1.out; omega
         case rel => exact ⟨((((x3_1 ++ (⟨#[10]⟩ : ByteArray)) ++ ((rd_T74 l0_1 x4_1).f0)) ++ (⟨#[61]⟩ : ByteArray)) ++ ((rd_T74 l0_1 x4_1).f1)), (wrap64 (x4_1 + 1)), u22_, u22_, H', ⟨u102_⟩, ⟨by (with_reducible repeat (first | refine blk_drewN ?_ _ | refine blk_drew ?_ | refine blk_alloc ?_ _)); exact BK120.out⟩, ⟨u105_⟩⟩
        ·rw [if_neg c9] at H
         exact absurd H u89_
       ·rw [if_neg c8] at H
        exact absurd H u89_
      ·rw [if_neg c7] at H
       exact absurd H u89_
     ·rw [if_neg c6] at H
      exact absurd H u89_
    ·rw [if_neg c5] at H
     exact absurd H u89_
   ·rw [if_neg c4] at H
    have c4b0 : decide (x4_1 < (l0_1.length : Int)) = false := decide_eq_false c4
    clear c4
    obtain rfl := Option.some.inj H
    have hcz11_0 : wr.cell? ⟨gb120, 0, none⟩ = some (.string a0_0) := (blk_cell BK120.out 0).trans rfl
    have hcz11_1 : wr.cell? ⟨gb120, 1, none⟩ = some (.slice A0_1 l0_1.length c0_1) := (blk_cell BK120.out 1).trans rfl
    have hfz11_0 := blk_frozen BK120.out 0
    have hfz11_1 := blk_frozen BK120.out 1
    go_wp2
    repeat (go_quiet (fail); try go_wp2)
    go_ret
    exact ⟨u7_, u105_⟩

/-! ### spec_DocGet: function 17 -/
def spec_DocGet.l0 : Nat → ByteArray → List ByteArray → Int → ByteArray → List (S74) → Option (ByteArray × (List (S74)) × Bool)
 | 0, _, _, _, _, _ => none
 | k + 1, x0, x4, x6, x129000, x129001 => if x6 < (x4.length : Int) then (if 0 ≤ x6 then ((spec_l1Cut.f k (rdOf ByteArray.empty x4 x6) 61 1).bind fun t130 => (if (t130.length : Int) < 2 then (some ((⟨#[]⟩ : ByteArray), ([] : List (S74)), false)) else (if 0 < (t130.length : Int) then (if 1 < (t130.length : Int) then (if x129001.length < 4398046511104 then (spec_DocGet.l0 k x0 x4 (wrap64 (x6 + 1)) x129000 (x129001 ++ [(⟨rdOf ByteArray.empty t130 0, rdOf ByteArray.empty t130 1⟩ : S74)])) else (none)) else (none)) else (none)))) else (none)) else ((spec_l2Form.f k x129000 x129001).bind fun t138 => (if t138 = true then ((spec_l2DocPut.f k x129000 x129001).bind fun t139 => (if t139.toList = x0.toList then (some (x129000, x129001, true)) else (some ((⟨#[]⟩ : ByteArray), ([] : List (S74)), false)))) else (some ((⟨#[]⟩ : ByteArray), ([] : List (S74)), false))))
def spec_DocGet.f (k : Nat) (a0 : ByteArray) : Option (ByteArray × (List (S74)) × Bool) := (spec_l1Cut.f k a0 10 5).bind fun t124 => (if 0 < (t124.length : Int) then (spec_DocGet.l0 k a0 t124 1 (rdOf ByteArray.empty t124 0) ([] : List (S74))) else (none))
theorem spec_DocGet.mono_l : ∀ k, (∀ y0 y1 y2 y3 y4, LeO (spec_DocGet.l0 k y0 y1 y2 y3 y4) (spec_DocGet.l0 (k + 1) y0 y1 y2 y3 y4))
 | 0 => fun _ _ _ _ _ r h => by simp [spec_DocGet.l0] at h
 | k + 1 => by
  have ih0 := spec_DocGet.mono_l k
  ·intro y0 y1 y2 y3 y4
   unfold spec_DocGet.l0
   repeat' first
   | (with_reducible exact ih0 _ _ _ _ _)
   | (with_reducible exact spec_l1Cut.mono _ _ _ _)
   | (with_reducible exact spec_l2DocPut.mono _ _ _)
   | (with_reducible exact spec_l2Form.mono _ _ _)
   | (with_reducible exact LeO.refl _)
   | (with_reducible exact LeO.none _)
   | (with_reducible refine LeO.ite ?_ ?_)
   | (with_reducible refine LeO.bind ?_ (fun _ => ?_))
   | exact ih0 _ _ _ _ _
   | exact spec_l1Cut.mono _ _ _ _
   | exact spec_l2DocPut.mono _ _ _
   | exact spec_l2Form.mono _ _ _
   | exact LeO.none _
   | refine LeO.ite ?_ ?_
   | refine LeO.bind ?_ (fun _ => ?_)
theorem spec_DocGet.mono : ∀ a0 k, LeO (spec_DocGet.f k a0) (spec_DocGet.f (k + 1) a0) := by
 intro a0 k
 have ih0 := spec_DocGet.mono_l k
 unfold spec_DocGet.f
 repeat' first
   | (with_reducible exact ih0 _ _ _ _ _)
   | (with_reducible exact spec_l1Cut.mono _ _ _ _)
   | (with_reducible exact spec_l2DocPut.mono _ _ _)
   | (with_reducible exact spec_l2Form.mono _ _ _)
   | (with_reducible exact LeO.refl _)
   | (with_reducible exact LeO.none _)
   | (with_reducible refine LeO.ite ?_ ?_)
   | (with_reducible refine LeO.bind ?_ (fun _ => ?_))
   | exact ih0 _ _ _ _ _
   | exact spec_l1Cut.mono _ _ _ _
   | exact spec_l2DocPut.mono _ _ _
   | exact spec_l2Form.mono _ _ _
   | exact LeO.none _
   | refine LeO.ite ?_ ?_
   | refine LeO.bind ?_ (fun _ => ?_)
def spec_DocGet.T9 : Bool × List (List Nat × List Nat) := (true, [([], []), ([0], [0]), ([], []), ([2], [2]), ([3], [3]), ([], []), ([5], [5]), ([6], [6]), ([4, 7], [4, 7]), ([8], [8]), ([1, 9], [1, 9]), ([0, 1, 2, 3, 4, 5, 6, 7, 8, 9, 10], []), ([11, 10, 10, 0, 1, 2, 3, 4, 5, 6, 7, 8, 9, 10], [10, 11])])
def spec_DocGet.B9 : List Nat := [0, 1, 0, 4, 12, 0, 32, 96, 252, 508, 1023, 2047, 4095]
theorem spec_DocGet.tab9 : rtab .any (opsOf Tryd.f17 9) = spec_DocGet.T9 := by kernel_rfl
theorem spec_DocGet.bits9 : waitsOk spec_DocGet.T9.2 spec_DocGet.B9 = true := by kernel_rfl
set_option maxHeartbeats 8000000 in
set_option maxRecDepth 100000 in
theorem spec_DocGet.calls (k : Nat) (a0 : ByteArray) (r1 : ByteArray) (r2 : List (S74)) (r3 : Bool) (w : World) (h : spec_DocGet.f k a0 = some (r1, r2, r3)) :
  Calls Tryd.prog 17 #[.string a0] w fun e w' => ∃ v1_ : Value, e = .returned (.tuple #[.agg #[.string r1, v1_], .bool r3]) ∧ Kd.R k74 74 w' w.heap.size (fun _ => True) v1_ r2 ∧ Below w.heap.size w w' := by
 have hu37 := Tryd.underlying37
 have hu74 := Tryd.underlying74
 have HB := Aside0.mk (Below.refl w.heap.size w)
 have H : ((spec_l1Cut.f k a0 10 5).bind fun t124 => (if 0 < (t124.length : Int) then (spec_DocGet.l0 k a0 t124 1 (rdOf ByteArray.empty t124 0) ([] : List (S74))) else (none))) = some (r1, r2, r3) := h
 clear h
 replace H := Option.bind_eq_some_iff.mp H
 obtain ⟨t124, A20, H⟩ := H
 replace H : (if 0 < (t124.length : Int) then (spec_DocGet.l0 k a0 t124 1 (rdOf ByteArray.empty t124 0) ([] : List (S74))) else (none)) = some (r1, r2, r3) := H
 have A2 := Aside0.mk A20
 clear A20
 by_cases c3 : 0 < (t124.length : Int)
 ·rw [if_pos c3] at H
  have c3b0 : decide (0 < (t124.length : Int)) = true := decide_eq_true c3
  have c3b1 : decide (0 < t124.length) = true := decide_eq_true (by omega)
  clear c3
  have H' := Aside0.mk H
  clear H
  go_enter Tryd.func17, Tryd.ntmps17
  go_wp2_with (first | ((with_reducible refine gate_dst (N := 2) rfl ?_); refine box_event ?hg (N := 2) ?hd (cs := #[.string (⟨#[]⟩ : ByteArray), .slice none 0 0]) (t := 37) ?hr ?_; (case hd => rfl); (case hg => rfl); (case hr => first | (go_simp; done) | (go_simp; rfl)); intro gb123 hg w4 hbox hb; have n0_ := Aside0.mk (below_step u3_ hb); have n1_ := Aside0.mk (hbox); have n2_ := Aside0.mk ((by rw [hg]; exact (below_size u3_) : w.heap.size ≤ gb123)); have n3_ := n2_; clear HB; have HB := n0_; have BK123 := n1_; have GW123 := n2_; have GE123 := n3_; clear n0_ n1_ n2_ n3_; clear hb hbox hg) | ((with_reducible refine gate_callee (f := 49) rfl ?_); refine goesL_ (some 9) rfl rfl Tryd.func49 u17_ rfl #[.string a0, .int .u8 10, .int .i64 5] rfl u0_ ?_; (with_reducible refine (spec_l1Cut.calls k a0 10 5 t124 _ A2.out).mono ?_); rintro e w5 ⟨v125, rfl, ho0, hb⟩; refine ⟨_, rfl, ?_⟩; have n0_ := Aside0.mk (Kd.R_lower ho0 (below_size u85_)); have n1_ := Aside0.mk (blk_below (g := gb123) (o := .cells #[.string (⟨#[]⟩ : ByteArray), .slice none 0 0] 37 (0, 0)) u51_ hb); have n2_ := Aside0.mk (below_step u85_ hb); clear BK123; clear HB; have HO126 := n0_; have BK123 := n1_; have HB := n2_; clear n0_ n1_ n2_; (try clear hb); (try clear hb2); (try clear hk); (try clear hi); (try clear ho0); obtain ⟨Ao6, co6, eo6⟩ := Kd.R_slice HO126.out; subst eo6; have p127 : 0 ≤ (0 : Int) := (by omega); have q127 : 0 < (t124.length : Int) := of_decide_eq_true u1_; obtain ⟨ad127, e127, hx127_0⟩ := Kd.at_string (Kd.R_reads' HO126.out).2.2 0 p127 q127; cases e127; have qi127 : (0 < t124.length) = True := eq_true (by omega); (try rw [show ((0 : Int)).toNat = 0 from rfl] at hx127_0); (try rw [Addr.add_zero'] at hx127_0); replace p127 := eq_true p127; replace q127 := eq_true q127) | ((with_reducible refine gate_dst (N := 5) rfl ?_); refine box_event ?hg (N := 5) ?hd (cs := #[.string (⟨#[]⟩ : ByteArray), .slice none 0 0]) (t := 37) ?hr ?_; (case hd => rfl); (case hg => rfl); (case hr => first | (go_simp; done) | (go_simp; rfl)); intro gb128 hg w7 hbox hb; have n0_ := Aside0.mk (Kd.R_below (by (with_reducible repeat (first | apply Kd.R_alloc | apply Kd.R_drewN | apply Kd.R_drew)); exact HO126.out) hb); have n1_ := Aside0.mk (blk_below (g := gb123) (o := .cells #[.string (⟨#[]⟩ : ByteArray), .slice none 0 0] 37 (0, 0)) u51_ hb); have n2_ := Aside0.mk (below_step u85_ hb); have n3_ := Aside0.mk (hbox); have n4_ := Aside0.mk ((by rw [hg]; exact (below_size u85_) : w.heap.size ≤ gb128)); have n5_ := Aside0.mk ((by rw [hg]; exact (below_size u85_) : w.heap.size ≤ gb128)); have n6_ := Aside0.mk ((by rw [hg]; exact Nat.ne_of_lt (blk_lt (g := gb123) (o := .cells #[.string (⟨#[]⟩ : ByteArray), .slice none 0 0] 37 (0, 0)) u51_) : gb123 ≠ gb128)); have n7_ := Aside0.mk ((by rw [hg]; exact Nat.ne_of_gt (blk_lt (g := gb123) (o := .cells #[.string (⟨#[]⟩ : ByteArray), .slice none 0 0] 37 (0, 0)) u51_) : gb128 ≠ gb123)); clear HO126; clear BK123; clear HB; have HO126 := n0_; have BK123 := n1_; have HB := n2_; have BK128 := n3_; have GW128 := n4_; have GE128 := n5_; have NB123_128 := n6_; have NB128_123 := n7_; clear n0_ n1_ n2_ n3_ n4_ n5_ n6_ n7_; clear hb hbox hg; have hnb8 := NB128_123.out; have hnc8 := NB123_128.out; have hcz9_0 : w7.cell? ⟨gb128, 0, none⟩ = some (.string (⟨#[]⟩ : ByteArray)) := (blk_cell BK128.out 0).trans rfl; have hcz9_1 : w7.cell? ⟨gb128, 1, none⟩ = some (.slice none 0 0) := (blk_cell BK128.out 1).trans rfl; have hfz9_0 := blk_frozen BK128.out 0; have hfz9_1 := blk_frozen BK128.out 1))
  go_loopg [6] k (fun kq v6 w' => ∃ (x6_1 : Int) (x124000_1 : ByteArray) (x129001_1 : List (S74)) (u129001 : Value), v6 = .int .i64 x6_1 ∧ Aside0 (spec_DocGet.l0 kq a0 t124 x6_1 (rdOf ByteArray.empty t124 0) x129001_1 = some (r1, r2, r3)) ∧ Aside0 (kq ≤ k) ∧ Aside0 (Kd.R Kd.string 9 w' w.heap.size (fun _ => True) (.slice (some ad127) t124.length co6) t124) ∧ Aside0 (Kd.R k74 74 w' w.heap.size (fun _ => True) u129001 x129001_1) ∧ Aside0 (w'.heap[gb123]? = some (.cells #[.string x124000_1, (.slice none 0 0)] 37 (0, 0))) ∧ Aside0 (w'.heap[gb128]? = some (.cells #[.string (rdOf ByteArray.empty t124 0), u129001] 37 (0, 0))) ∧ Aside0 (Below w.heap.size w w'))
  case atStart => exact ⟨(1), ((⟨#[]⟩ : ByteArray)), (([] : List (S74))), (.slice none 0 0), u22_, H', ⟨Nat.le_refl _⟩, ⟨by (with_reducible repeat (first | apply Kd.R_alloc | apply Kd.R_drewN | apply Kd.R_drew)); exact Kd.R_mono (Kd.R_far (p := ⟨gb128, 1, none⟩) (Kd.R_far (p := ⟨gb128, 0, none⟩) (Kd.R_types HO126.out BK128.out u39_) (fun _ hk => hk.2) (.string (rdOf ByteArray.empty t124 0))) (fun _ hk => hk.2) (.slice none 0 0)) (fun _ hk => trivial)⟩, ⟨u69_⟩, ⟨by (with_reducible repeat (first | refine blk_drewN ?_ _ | refine blk_drew ?_ | refine blk_alloc ?_ _)); refine blk_far ?_ NB123_128.out _; (with_reducible repeat (first | refine blk_drewN ?_ _ | refine blk_drew ?_ | refine blk_alloc ?_ _)); refine blk_far ?_ NB123_128.out _; (with_reducible repeat (first | refine blk_drewN ?_ _ | refine blk_drew ?_ | refine blk_alloc ?_ _)); exact BK123.out⟩, ⟨by (with_reducible repeat (first | refine blk_drewN ?_ _ | refine blk_drew ?_ | refine blk_alloc ?_ _)); refine blk_put (cs := #[.string (rdOf ByteArray.empty t124 0), .slice none 0 0]) ?_ 1 _ rfl; (with_reducible repeat (first | refine blk_drewN ?_ _ | refine blk_drew ?_ | refine blk_alloc ?_ _)); refine blk_put (cs := #[.string (⟨#[]⟩ : ByteArray), .slice none 0 0]) ?_ 0 _ rfl; (with_reducible repeat (first | refine blk_drewN ?_ _ | refine blk_drew ?_ | refine blk_alloc ?_ _)); exact BK128.out⟩, ⟨u23_⟩⟩
  case round =>
   clear H'
   try clear c1
   try clear p1
   try clear q1
   try clear hx1
   try clear qi1
   try clear p2
   try clear c3
   try clear c3b0
   try clear c3b1
   try clear c4
   try clear c8
   try clear hcz9_0
   try clear hcz9_1
   try clear hfz9_0
   try clear hfz9_1
   try clear hx127_0
   try clear p127
   try clear q127
   obtain ⟨x6_1, x124000_1, x129001_1, u129001, rfl, HA, HK1, HO_4, HO_129001, BK123, BK128, HB⟩ := hrel
   cases gk with
   | zero => exact absurd HA.out (by simp [spec_DocGet.l0])
   | succ k1 =>
    have H := HA.out
    clear HA
    simp only [spec_DocGet.l0] at H
    by_cases c10 : x6_1 < (t124.length : Int)
    ·rw [if_pos c10] at H
     have c10b0 : decide (x6_1 < (t124.length : Int)) = true := decide_eq_true c10
     clear c10
     by_cases c11 : 0 ≤ x6_1
     ·rw [if_pos c11] at H
      have c11b0 : decide (0 ≤ x6_1) = true := decide_eq_true c11
      clear c11
      replace H := Option.bind_eq_some_iff.mp H
      obtain ⟨t130, A120, H⟩ := H
      replace H : (if (t130.length : Int) < 2 then (some ((⟨#[]⟩ : ByteArray), ([] : List (S74)), false)) else (if 0 < (t130.length : Int) then (if 1 < (t130.length : Int) then (if x129001_1.length < 4398046511104 then (spec_DocGet.l0 k1 a0 t124 (wrap64 (x6_1 + 1)) (rdOf ByteArray.empty t124 0) (x129001_1 ++ [(⟨rdOf ByteArray.empty t130 0, rdOf ByteArray.empty t130 1⟩ : S74)])) else (none)) else (none)) else (none))) = some (r1, r2, r3) := H
      have A12 := Aside0.mk A120
      clear A120
      by_cases c13 : (t130.length : Int) < 2
      ·rw [if_pos c13] at H
       have c13b0 : decide ((t130.length : Int) < 2) = true := decide_eq_true c13
       have c13b1 : decide (t130.length < 2) = true := decide_eq_true (by omega)
       clear c13
       simp only [Option.some.injEq, Prod.mk.injEq] at H
       obtain ⟨rfl, rfl, rfl⟩ := H
       have p129 : 0 ≤ (x6_1 : Int) := of_decide_eq_true u1_
       have q129 : x6_1 < (t124.length : Int) := of_decide_eq_true u1_
       obtain ⟨ad129, e129, hx129_0⟩ := Kd.at_string (Kd.R_reads' HO_4.out).2.2 x6_1 p129 q129
       obtain rfl : ad127 = ad129 := (by injection e129)
       replace p129 := eq_true p129
       replace q129 := eq_true q129
       go_wp2_with (first | ((with_reducible refine gate_callee (f := 49) rfl ?_); refine goesL_ (some 24) rfl rfl Tryd.func49 u17_ rfl #[.string (rdOf ByteArray.empty t124 x6_1), .int .u8 61, .int .i64 1] rfl u0_ ?_; (with_reducible refine (spec_l1Cut.calls k1 (rdOf ByteArray.empty t124 x6_1) 61 1 t130 _ A12.out).mono ?_); rintro e w14 ⟨v131, rfl, ho0, hb⟩; refine ⟨_, rfl, ?_⟩; have n0_ := Aside0.mk (Kd.R_elder' u66_ (Kd.R_base ho0) hb); have n1_ := Aside0.mk (Kd.R_below u61_ hb); have n2_ := Aside0.mk (Kd.R_lower (Kd.R_new' ho0 (Kd.R_lt u66_)) (below_size u23_)); have n3_ := Aside0.mk (blk_below (g := gb123) (o := .cells #[.string x124000_1, .slice none 0 0] 37 (0, 0)) u51_ hb); have n4_ := Aside0.mk (blk_below (g := gb128) (o := .cells #[.string (rdOf ByteArray.empty t124 0), u129001] 37 (0, 0)) u72_ hb); have n5_ := Aside0.mk (below_step u23_ hb); clear HO_4; clear HO_129001; clear BK123; clear BK128; clear HB; have HO_4 := n0_; have HO_129001 := n1_; have HO132 := n2_; have BK123 := n3_; have BK128 := n4_; have HB := n5_; clear n0_ n1_ n2_ n3_ n4_ n5_; (try clear hb); (try clear hb2); (try clear hk); (try clear hi); (try clear ho0); obtain ⟨Ao15, co15, eo15⟩ := Kd.R_slice HO132.out; subst eo15; have hnb16 := NB123_128.out; have hnc16 := NB128_123.out; have hcz17_0 : w14.cell? ⟨gb123, 0, none⟩ = some (.string x124000_1) := (blk_cell BK123.out 0).trans rfl; have hcz17_1 : w14.cell? ⟨gb123, 1, none⟩ = some (.slice none 0 0) := (blk_cell BK123.out 1).trans rfl; have hfz17_0 := blk_frozen BK123.out 0; have hfz17_1 := blk_frozen BK123.out 1))
       refine bodyPost_ret (results_ct rfl _ _ gb123 37 #[.string (⟨#[]⟩ : ByteArray), .slice none 0 0] (0, 0) _ rfl u62_ Tryd.underlying37 rfl u17_) rfl ?_
       exact ⟨_, u7_, u69_, u23_⟩
      ·rw [if_neg c13] at H
       have c13b0 : decide ((t130.length : Int) < 2) = false := decide_eq_false c13
       have c13b1 : decide (t130.length < 2) = false := decide_eq_false (by omega)
       clear c13
       by_cases c18 : 0 < (t130.length : Int)
       ·rw [if_pos c18] at H
        have c18b0 : decide (0 < (t130.length : Int)) = true := decide_eq_true c18
        have c18b1 : decide (0 < t130.length) = true := decide_eq_true (by omega)
        clear c18
        by_cases c19 : 1 < (t130.length : Int)
        ·rw [if_pos c19] at H
         have c19b0 : decide (1 < (t130.length : Int)) = true := decide_eq_true c19
         have c19b1 : decide (1 < t130.length) = true := decide_eq_true (by omega)
         clear c19
         by_cases c20 : x129001_1.length < 4398046511104
         ·rw [if_pos c20] at H
          have LMc20 := Aside0.mk c20
          clear c20
          obtain ⟨y135, hy135⟩ : ∃ y_ : List (S74), y_ = (x129001_1 ++ [(⟨rdOf ByteArray.empty t130 0, rdOf ByteArray.empty t130 1⟩ : S74)]) := ⟨_, rfl⟩
          replace H : (spec_DocGet.l0 k1 a0 t124 (wrap64 (x6_1 + 1)) (rdOf ByteArray.empty t124 0) y135) = some (r1, r2, r3) := by first | (rw [hy135]; with_reducible exact H) | (have H2_ := (Option.bind_some _ _).symm.trans H; rw [hy135]; with_reducible exact H2_) | (have H2_ := (Option.bind_some _ _).symm.trans H; with_reducible exact H2_) | with_reducible exact H | (rw [hy135]; exact H) | exact H
          have Ny135 := Aside0.mk hy135
          clear hy135
          have H' := Aside0.mk H
          clear H
          have p129 : 0 ≤ (x6_1 : Int) := of_decide_eq_true u1_
          have q129 : x6_1 < (t124.length : Int) := of_decide_eq_true u1_
          obtain ⟨ad129, e129, hx129_0⟩ := Kd.at_string (Kd.R_reads' HO_4.out).2.2 x6_1 p129 q129
          obtain rfl : ad127 = ad129 := (by injection e129)
          replace p129 := eq_true p129
          replace q129 := eq_true q129
          try go_wp2_with (first | ((with_reducible refine gate_callee (f := 49) rfl ?_); refine goesL_ (some 24) rfl rfl Tryd.func49 u17_ rfl #[.string (rdOf ByteArray.empty t124 x6_1), .int .u8 61, .int .i64 1] rfl u0_ ?_; (with_reducible refine (spec_l1Cut.calls k1 (rdOf ByteArray.empty t124 x6_1) 61 1 t130 _ A12.out).mono ?_); rintro e w21 ⟨v131, rfl, ho0, hb⟩; refine ⟨_, rfl, ?_⟩; have n0_ := Aside0.mk (Kd.R_elder' u66_ (Kd.R_base ho0) hb); have n1_ := Aside0.mk (Kd.R_below u61_ hb); have n2_ := Aside0.mk (Kd.R_lower (Kd.R_new' ho0 (Kd.R_lt u66_)) (below_size u23_)); have n3_ := Aside0.mk (blk_below (g := gb123) (o := .cells #[.string x124000_1, .slice none 0 0] 37 (0, 0)) u51_ hb); have n4_ := Aside0.mk (blk_below (g := gb128) (o := .cells #[.string (rdOf ByteArray.empty t124 0), u129001] 37 (0, 0)) u72_ hb); have n5_ := Aside0.mk (below_step u23_ hb); clear HO_4; clear HO_129001; clear BK123; clear BK128; clear HB; have HO_4 := n0_; have HO_129001 := n1_; have HO132 := n2_; have BK123 := n3_; have BK128 := n4_; have HB := n5_; clear n0_ n1_ n2_ n3_ n4_ n5_; (try clear hb); (try clear hb2); (try clear hk); (try clear hi); (try clear ho0); obtain ⟨Ao22, co22, eo22⟩ := Kd.R_slice HO132.out; subst eo22))
          have n0_ := Aside0.mk (Kd.R_drew HO_4.out)
          have n1_ := Aside0.mk (Kd.R_drew HO_129001.out)
          have n2_ := Aside0.mk (Kd.R_drew HO132.out)
          have n3_ := Aside0.mk (blk_drew BK123.out)
          have n4_ := Aside0.mk (blk_drew BK128.out)
          have n5_ := Aside0.mk (below_drew1 HB.out)
          clear HO_4
          clear HO_129001
          clear HO132
          clear BK123
          clear BK128
          clear HB
          have HO_4 := n0_
          have HO_129001 := n1_
          have HO132 := n2_
          have BK123 := n3_
          have BK128 := n4_
          have HB := n5_
          clear n0_ n1_ n2_ n3_ n4_ n5_
          have p133 : 0 ≤ (0 : Int) := (by omega)
          have q133 : 0 < (t130.length : Int) := of_decide_eq_true u1_
          obtain ⟨ad133, e133, hx133_0⟩ := Kd.at_string (Kd.R_reads' HO132.out).2.2 0 p133 q133
          cases e133
          have qi133 : (0 < t130.length) = True := eq_true (by omega)
          (try rw [show ((0 : Int)).toNat = 0 from rfl] at hx133_0)
          (try rw [Addr.add_zero'] at hx133_0)
          replace p133 := eq_true p133
          replace q133 := eq_true q133
          have p134 : 0 ≤ (1 : Int) := (by omega)
          have q134 : 1 < (t130.length : Int) := of_decide_eq_true u1_
          obtain ⟨ad134, e134, hx134_0⟩ := Kd.at_string (Kd.R_reads' HO132.out).2.2 1 p134 q134
          obtain rfl : ad133 = ad134 := (by injection e134)
          (try simp only [show (1 : Int).toNat = 1 from rfl, Nat.reduceMul, Nat.reduceEqDiff, Go.Addr.add, ↓reduceIte] at hx134_0)
          have qi134 : (1 < t130.length) = True := eq_true (by omega)
          (try rw [show ((1 : Int)).toNat = 1 from rfl] at hx134_0)
          replace p134 := eq_true p134
          replace q134 := eq_true q134
          refine start_ (n := 13) (S := fun w' => w'.cell? ⟨gb128, 0, none⟩ = some (.string (rdOf ByteArray.empty t124 0)) ∧ w'.cell? ⟨gb128, 1, none⟩ = some (u129001) ∧ w'.cell? ad133 = some (.string (rdOf ByteArray.empty t130 0)) ∧ w'.cell? ⟨ad133.block, ad133.off + 1, none⟩ = some (.string (rdOf ByteArray.empty t130 1))) (ds := [10, 12]) #[false, false, false, false, false, false, false, false, false, false, false, false, false] u17_ rfl rfl ⟨(blk_cell BK128.out 0).trans rfl, (blk_cell BK128.out 1).trans rfl, hx133_0, hx134_0⟩ (fun hHeld => ?_); refine with_tabW spec_DocGet.tab9 spec_DocGet.bits9 (fun HT_ HW_ => ?_)
          generalize w21.drew = w23 at HO_4 HO_129001 HO132 BK123 BK128 HB hx133_0 hx134_0 hHeld ⊢
          refine pure_ (i := 0) (N := some 29) (v := ?_) (a' := ?_) #[true, false, false, false, false, false, false, false, false, false, false, false, false] rfl rfl (any_of HT_.out u17_) (fun _ _ _ h => h) (Or.inl ⟨u67_, ?_⟩) ?_ ?_
          rotate_left
          ·intro w'
           go_simp
           with_reducible rfl
          rotate_left
          ·simp only [Act.put, List.setIfInBounds_toArray, List.set_cons_zero, List.set_cons_succ, i64_w, i32_w]
           rfl
          refine pure_ (i := 2) (N := some 31) (v := ?_) (a' := ?_) #[true, false, true, false, false, false, false, false, false, false, false, false, false] rfl rfl (any_of HT_.out u17_) (fun _ _ _ h => h) (Or.inl ⟨u67_, ?_⟩) ?_ ?_
          rotate_left
          ·intro w'
           go_simp
           with_reducible rfl
          rotate_left
          ·simp only [Act.put, List.setIfInBounds_toArray, List.set_cons_zero, List.set_cons_succ, i64_w, i32_w]
           rfl
          refine pure_ (i := 3) (N := some 32) (v := ?_) (a' := ?_) #[true, false, true, true, false, false, false, false, false, false, false, false, false] rfl rfl (any_of HT_.out u17_) (fun _ _ _ h => h) (Or.inl ⟨u67_, ?_⟩) ?_ ?_
          rotate_left
          ·intro w'
           go_simp
           with_reducible rfl
          rotate_left
          ·simp only [Act.put, List.setIfInBounds_toArray, List.set_cons_zero, List.set_cons_succ, i64_w, i32_w]
           rfl
          refine pure_ (i := 5) (N := some 34) (v := ?_) (a' := ?_) #[true, false, true, true, false, true, false, false, false, false, false, false, false] rfl rfl (any_of HT_.out u17_) (fun _ _ _ h => h) (Or.inl ⟨u67_, ?_⟩) ?_ ?_
          rotate_left
          ·intro w'
           go_simp
           with_reducible rfl
          rotate_left
          ·simp only [Act.put, List.setIfInBounds_toArray, List.set_cons_zero, List.set_cons_succ, i64_w, i32_w]
           rfl
          refine pure_ (i := 6) (N := some 35) (v := ?_) (a' := ?_) #[true, false, true, true, false, true, true, false, false, false, false, false, false] rfl rfl (any_of HT_.out u17_) (fun _ _ _ h => h) (Or.inl ⟨u67_, ?_⟩) ?_ ?_
          rotate_left
          ·intro w'
           go_simp
           with_reducible rfl
          rotate_left
          ·simp only [Act.put, List.setIfInBounds_toArray, List.set_cons_zero, List.set_cons_succ, i64_w, i32_w]
           rfl
          refine take_ (i := 1) (N := some 30) (v := ?_) (a' := ?_) #[true, true, true, true, false, true, true, false, false, false, false, false, false] rfl rfl (take_ofW HT_.out HW_.out u17_) (fun _ _ _ h => h) (Or.inl ⟨u67_, ?_⟩) hHeld ?_ ?_
          rotate_left
          ·rintro w' ⟨s0, s1, s2, s3⟩
           go_simp
           with_reducible rfl
          rotate_left
          ·simp only [Act.put, List.setIfInBounds_toArray, List.set_cons_zero, List.set_cons_succ, i64_w, i32_w]
           rfl
          refine take_ (i := 4) (N := some 33) (v := ?_) (a' := ?_) #[true, true, true, true, true, true, true, false, false, false, false, false, false] rfl rfl (take_ofW HT_.out HW_.out u17_) (fun _ _ _ h => h) (Or.inl ⟨u67_, ?_⟩) hHeld ?_ ?_
          rotate_left
          ·rintro w' ⟨s0, s1, s2, s3⟩
           go_simp
           with_reducible rfl
          rotate_left
          ·simp only [Act.put, List.setIfInBounds_toArray, List.set_cons_zero, List.set_cons_succ, i64_w, i32_w]
           rfl
          refine take_ (i := 7) (N := some 36) (v := ?_) (a' := ?_) #[true, true, true, true, true, true, true, true, false, false, false, false, false] rfl rfl (take_ofW HT_.out HW_.out u17_) (fun _ _ _ h => h) (Or.inl ⟨u67_, ?_⟩) hHeld ?_ ?_
          rotate_left
          ·rintro w' ⟨s0, s1, s2, s3⟩
           go_simp
           with_reducible rfl
          rotate_left
          ·simp only [Act.put, List.setIfInBounds_toArray, List.set_cons_zero, List.set_cons_succ, i64_w, i32_w]
           rfl
          refine pure_ (i := 8) (N := some 37) (v := ?_) (a' := ?_) #[true, true, true, true, true, true, true, true, true, false, false, false, false] rfl rfl (any_of HT_.out u17_) (fun _ _ _ h => h) (Or.inl ⟨u67_, ?_⟩) ?_ ?_
          rotate_left
          ·intro w'
           go_simp
           with_reducible rfl
          rotate_left
          ·simp only [Act.put, List.setIfInBounds_toArray, List.set_cons_zero, List.set_cons_succ, i64_w, i32_w]
           rfl
          refine one_ (i := 9) (N := some 38) #[true, true, true, true, true, true, true, true, true, true, false, false, false] rfl rfl (one_of HT_.out u17_) u39_ (fun K hK => ?_)
          refine value_ (w1 := ?_) (v := ?_) u67_ rfl ?_ ?_
          rotate_left 2
          ·go_simp
           constructor
           ·rfl
           ·rfl
          refine hK.out _ _ ⟨(blk_cell (blk_alloc BK128.out _) 0).trans rfl, (blk_cell (blk_alloc BK128.out _) 1).trans rfl, (World.cell?_alloc_lt _ _ _ (World.block_lt_of_cell? _ _ (hHeld.2.2.1))).trans (hHeld.2.2.1), (World.cell?_alloc_lt _ _ _ (World.block_lt_of_cell? _ _ (hHeld.2.2.2))).trans (hHeld.2.2.2)⟩ (fun hHeld => ?_)
          clear hK K
          refine norm_ (a' := ?_) ?_ ?_
          rotate_left
          ·show Act.put _ (some 38) _ = _
           simp only [Act.put, List.setIfInBounds_toArray, List.set_cons_zero, List.set_cons_succ, i64_w, i32_w]
           rfl
          refine last_ (i := 10) (N := some 39) #[true, true, true, true, true, true, true, true, true, true, true, false, false] rfl rfl (one_of HT_.out u17_) u39_ (fun K hK => ?_)
          refine Kd.R_append_step k74 (w0 := w) w.heap.size u67_ (.tmp 30) (.tmp 38) 35 74 (.agg #[(.string ⟨#[]⟩), (.string ⟨#[]⟩)]) 32 rfl Tryd.underlying35 info74 rfl u39_ (by omega) u129001 x129001_1 (⟨rdOf ByteArray.empty t130 0, rdOf ByteArray.empty t130 1⟩ : S74) [.string (rdOf ByteArray.empty t130 0), .string (rdOf ByteArray.empty t130 1)] (fun _ => True) (fun _ => False) rfl rfl ?aP (fun _ hk => hk.elim) ?aF ?aO ?aB ?aS ?aL ?_
          (case aP => exact k74_mkM _ _ _ (⟨rdOf ByteArray.empty t130 0, rdOf ByteArray.empty t130 1⟩ : S74))
          (case aB => exact u23_)
          (case aF => exact (fun _ _ => trivial))
          (case aO => exact u61_)
          (case aS => exact (below_size u23_))
          (case aL => have := LMc20.out; omega)
          intro v136 w24 ho hb hg hat
          rw [← Ny135.out] at ho
          have n0_ := Aside0.mk (Kd.R_over' u66_ (Kd.R_typed u61_) u39_ hg)
          have n1_ := Aside0.mk (blk_grown (g := gb123) (o := .cells #[.string x124000_1, .slice none 0 0] 37 (0, 0)) u51_ hg (Kd.R_ne HO_129001.out BK123.out u39_))
          have n2_ := Aside0.mk (blk_grown (g := gb128) (o := .cells #[.string (rdOf ByteArray.empty t124 0), u129001] 37 (0, 0)) u72_ hg (Kd.R_ne HO_129001.out BK128.out u39_))
          have n3_ := Aside0.mk (Kd.R_over' (by (with_reducible repeat (first | apply Kd.R_alloc | apply Kd.R_drewN | apply Kd.R_drew)); exact HO132.out) (Kd.R_typed u61_) u39_ hg)
          have n4_ := Aside0.mk (hb)
          have n5_ := Aside0.mk (ho)
          clear HO_4
          clear BK123
          clear BK128
          clear HO132
          clear HB
          clear HO_129001
          have HO_4 := n0_
          have BK123 := n1_
          have BK128 := n2_
          have HO132 := n3_
          have HB := n4_
          have HO137 := n5_
          clear n0_ n1_ n2_ n3_ n4_ n5_
          clear ho hb hg hat
          obtain ⟨Ao25, co25, eo25⟩ := Kd.R_slice HO137.out
          (first | subst eo25 | (injection eo25 with f1_ f2_ f3_; have f4_ := f1_.symm; have f5_ := f3_.symm; clear f1_ f2_ f3_; subst f4_; subst f5_))
          refine hK.out _ _ ?_
          clear hK K
          refine norm_ (a' := ?_) ?_ ?_
          rotate_left
          ·show Act.put _ (some 39) _ = _
           simp only [Act.put, List.setIfInBounds_toArray, List.set_cons_zero, List.set_cons_succ, i64_w, i32_w]
           rfl
          refine pure_ (i := 11) (N := some 40) (v := ?_) (a' := ?_) #[true, true, true, true, true, true, true, true, true, true, true, true, false] rfl rfl (any_of HT_.out u17_) (fun _ _ _ h => h) (Or.inl ⟨u67_, ?_⟩) ?_ ?_
          rotate_left
          ·intro w'
           go_simp
           with_reducible rfl
          rotate_left
          ·simp only [Act.put, List.setIfInBounds_toArray, List.set_cons_zero, List.set_cons_succ, i64_w, i32_w]
           rfl
          refine last_ (i := 12) (N := none) #[true, true, true, true, true, true, true, true, true, true, true, true, true] rfl rfl (one_of HT_.out u17_) u39_ (fun K hK => ?_)
          have hs26 : w24.cell? ⟨gb128, 1, none⟩ = some (u129001) := (blk_cell BK128.out 1).trans rfl
          have hfs26 := blk_frozen BK128.out 1
          have hns26_0 := NB123_128.out
          have hms26_0 := NB128_123.out
          refine skip_ (w1 := ?_) u67_ rfl ?_ ?_
          rotate_left
          ·go_simp
           rfl
          refine hK.out _ _ ?_
          clear hK K
          refine done_ (done_of HT_.out u17_) ?_
          try go_wp2
          go_roundg k1
          case measure => have := HK1.out; omega
          case rel => exact ⟨(wrap64 (x6_1 + 1)), (x124000_1), (y135), (.slice Ao25 y135.length co25), u22_, H', ⟨u102_⟩, ⟨by (with_reducible repeat (first | apply Kd.R_alloc | apply Kd.R_drewN | apply Kd.R_drew)); exact Kd.R_mono (Kd.R_far (p := ⟨gb128, 1, none⟩) (Kd.R_types HO_4.out BK128.out u39_) (fun _ hk => hk.2) (.slice Ao25 y135.length co25)) (fun _ hk => trivial)⟩, ⟨by (with_reducible repeat (first | apply Kd.R_alloc | apply Kd.R_drewN | apply Kd.R_drew)); exact Kd.R_mono (Kd.R_far (p := ⟨gb128, 1, none⟩) (Kd.R_types HO137.out BK128.out u39_) (fun _ hk => hk.2) (.slice Ao25 y135.length co25)) (fun _ hk => trivial)⟩, ⟨by (with_reducible repeat (first | refine blk_drewN ?_ _ | refine blk_drew ?_ | refine blk_alloc ?_ _)); refine blk_far ?_ NB123_128.out _; (with_reducible repeat (first | refine blk_drewN ?_ _ | refine blk_drew ?_ | refine blk_alloc ?_ _)); exact BK123.out⟩, ⟨by (with_reducible repeat (first | refine blk_drewN ?_ _ | refine blk_drew ?_ | refine blk_alloc ?_ _)); refine blk_put (cs := #[.string (rdOf ByteArray.empty t124 0), u129001]) ?_ 1 _ rfl; (with_reducible repeat (first | refine blk_drewN ?_ _ | refine blk_drew ?_ | refine blk_alloc ?_ _)); exact BK128.out⟩, ⟨u23_⟩⟩
         ·rw [if_neg c20] at H
          exact absurd H u89_
        ·rw [if_neg c19] at H
         exact absurd H u89_
       ·rw [if_neg c18] at H
        exact absurd H u89_
     ·rw [if_neg c11] at H
      exact absurd H u89_
    ·rw [if_neg c10] at H
     have c10b0 : decide (x6_1 < (t124.length : Int)) = false := decide_eq_false c10
     clear c10
     replace H := Option.bind_eq_some_iff.mp H
     obtain ⟨t138, A270, H⟩ := H
     replace H : (if t138 = true then ((spec_l2DocPut.f k1 (rdOf ByteArray.empty t124 0) x129001_1).bind fun t139 => (if t139.toList = a0.toList then (some ((rdOf ByteArray.empty t124 0), x129001_1, true)) else (some ((⟨#[]⟩ : ByteArray), ([] : List (S74)), false)))) else (some ((⟨#[]⟩ : ByteArray), ([] : List (S74)), false))) = some (r1, r2, r3) := H
     have A27 := Aside0.mk A270
     clear A270
     by_cases c28 : t138 = true
     ·subst c28
      have H1 : ((spec_l2DocPut.f k1 (rdOf ByteArray.empty t124 0) x129001_1).bind fun t139 => (if t139.toList = a0.toList then (some ((rdOf ByteArray.empty t124 0), x129001_1, true)) else (some ((⟨#[]⟩ : ByteArray), ([] : List (S74)), false)))) = some (r1, r2, r3) := by rw [if_pos rfl] at H; exact H
      clear H
      have H := H1
      clear H1
      replace H := Option.bind_eq_some_iff.mp H
      obtain ⟨t139, A290, H⟩ := H
      replace H : (if t139.toList = a0.toList then (some ((rdOf ByteArray.empty t124 0), x129001_1, true)) else (some ((⟨#[]⟩ : ByteArray), ([] : List (S74)), false))) = some (r1, r2, r3) := H
      have A29 := Aside0.mk A290
      clear A290
      by_cases c30 : t139.toList = a0.toList
      ·rw [if_pos c30] at H
       have c30b0 : (t139.toList == a0.toList) = true := beq_iff_eq.mpr c30
       have c30b1 : (t139.toList != a0.toList) = false := bne_eq_false_iff_eq.mpr c30
       clear c30
       simp only [Option.some.injEq, Prod.mk.injEq] at H
       obtain ⟨rfl, rfl, rfl⟩ := H
       have hnb31 := NB128_123.out
       have hnc31 := NB123_128.out
       have hcz32_0 : wr.cell? ⟨gb128, 0, none⟩ = some (.string (rdOf ByteArray.empty t124 0)) := (blk_cell BK128.out 0).trans rfl
       have hcz32_1 : wr.cell? ⟨gb128, 1, none⟩ = some (u129001) := (blk_cell BK128.out 1).trans rfl
       have hfz32_0 := blk_frozen BK128.out 0
       have hfz32_1 := blk_frozen BK128.out 1
       obtain ⟨Ao33, co33, eo33⟩ := Kd.R_slice HO_129001.out
       subst eo33
       go_wp2_with (first | ((with_reducible refine gate_callee (f := 50) rfl ?_); refine goesL_ (some 42) rfl rfl Tryd.func50 u17_ rfl #[.agg #[.string (rdOf ByteArray.empty t124 0), .slice Ao33 x129001_1.length co33]] rfl u0_ ?_; (with_reducible refine (spec_l2Form.calls k1 (rdOf ByteArray.empty t124 0) _ _ x129001_1 true _ ?side1 ?side2 A27.out).mono ?_); (case side1 => repeat (first | exact (Kd.R_reads' HO_129001.out).2.2 | (with_reducible refine Kd.C_alloc ?_ _) | (with_reducible refine Kd.C_drewN ?_ _) | (with_reducible refine Kd.C_drew ?_))); (case side2 => exact (Kd.R_reads' HO_129001.out).2.1); rintro e w34 ⟨rfl, hb⟩; refine ⟨_, rfl, ?_⟩; have n0_ := Aside0.mk (Kd.R_below u66_ hb); have n1_ := Aside0.mk (Kd.R_below u61_ hb); have n2_ := Aside0.mk (blk_below (g := gb123) (o := .cells #[.string x124000_1, .slice none 0 0] 37 (0, 0)) u51_ hb); have n3_ := Aside0.mk (blk_below (g := gb128) (o := .cells #[.string (rdOf ByteArray.empty t124 0), .slice Ao33 x129001_1.length co33] 37 (0, 0)) u72_ hb); have n4_ := Aside0.mk (below_step u23_ hb); clear HO_4; clear HO_129001; clear BK123; clear BK128; clear HB; have HO_4 := n0_; have HO_129001 := n1_; have BK123 := n2_; have BK128 := n3_; have HB := n4_; clear n0_ n1_ n2_ n3_ n4_; (try clear hb); (try clear hb2); (try clear hk); (try clear hi); have hcz35_0 : w34.cell? ⟨gb128, 0, none⟩ = some (.string (rdOf ByteArray.empty t124 0)) := (blk_cell BK128.out 0).trans rfl; have hcz35_1 : w34.cell? ⟨gb128, 1, none⟩ = some (.slice Ao33 x129001_1.length co33) := (blk_cell BK128.out 1).trans rfl; have hfz35_0 := blk_frozen BK128.out 0; have hfz35_1 := blk_frozen BK128.out 1) | (go_at_call 51; (with_reducible refine (spec_l2DocPut.calls k1 (rdOf ByteArray.empty t124 0) _ _ x129001_1 t139 _ ?side1 ?side2 A29.out).mono ?_); (case side1 => repeat (first | exact (Kd.R_reads' HO_129001.out).2.2 | (with_reducible refine Kd.C_alloc ?_ _) | (with_reducible refine Kd.C_drewN ?_ _) | (with_reducible refine Kd.C_drew ?_))); (case side2 => exact (Kd.R_reads' HO_129001.out).2.1); rintro e w36 ⟨rfl, hb⟩; have n0_ := Aside0.mk (Kd.R_below u66_ hb); have n1_ := Aside0.mk (Kd.R_below u61_ hb); have n2_ := Aside0.mk (blk_below (g := gb123) (o := .cells #[.string x124000_1, .slice none 0 0] 37 (0, 0)) u51_ hb); have n3_ := Aside0.mk (blk_below (g := gb128) (o := .cells #[.string (rdOf ByteArray.empty t124 0), .slice Ao33 x129001_1.length co33] 37 (0, 0)) u72_ hb); have n4_ := Aside0.mk (below_step u23_ hb); clear HO_4; clear HO_129001; clear BK123; clear BK128; clear HB; have HO_4 := n0_; have HO_129001 := n1_; have BK123 := n2_; have BK128 := n3_; have HB := n4_; clear n0_ n1_ n2_ n3_ n4_; (try clear hb); (try clear hb2); (try clear hk); (try clear hi); have hcz37_0 : w36.cell? ⟨gb128, 0, none⟩ = some (.string (rdOf ByteArray.empty t124 0)) := (blk_cell BK128.out 0).trans rfl; have hcz37_1 : w36.cell? ⟨gb128, 1, none⟩ = some (.slice Ao33 x129001_1.length co33) := (blk_cell BK128.out 1).trans rfl; have hfz37_0 := blk_frozen BK128.out 0; have hfz37_1 := blk_frozen BK128.out 1; have hcz38_0 : w36.cell? ⟨gb123, 0, none⟩ = some (.string x124000_1) := (blk_cell BK123.out 0).trans rfl; have hcz38_1 : w36.cell? ⟨gb123, 1, none⟩ = some (.slice none 0 0) := (blk_cell BK123.out 1).trans rfl; have hfz38_0 := blk_frozen BK123.out 0; have hfz38_1 := blk_frozen BK123.out 1))
       refine bodyPost_ret (results_ct rfl _ _ gb123 37 #[.string (rdOf ByteArray.empty t124 0), .slice Ao33 x129001_1.length co33] (0, 0) _ rfl (by (with_reducible repeat (first | refine blk_drewN ?_ _ | refine blk_drew ?_ | refine blk_alloc ?_ _)); refine blk_put (cs := #[.string (rdOf ByteArray.empty t124 0), .slice none 0 0]) ?_ 1 _ rfl; (with_reducible repeat (first | refine blk_drewN ?_ _ | refine blk_drew ?_ | refine blk_alloc ?_ _)); refine blk_put (cs := #[.string x124000_1, .slice none 0 0]) ?_ 0 _ rfl; (with_reducible repeat (first | refine blk_drewN ?_ _ | refine blk_drew ?_ | refine blk_alloc ?_ _)); exact BK123.out) Tryd.underlying37 rfl u17_) rfl ?_
       exact ⟨_, u7_, by (with_reducible repeat (first | apply Kd.R_alloc | apply Kd.R_drewN | apply Kd.R_drew)); exact Kd.R_mono (Kd.R_far (p := ⟨gb123, 1, none⟩) (Kd.R_far (p := ⟨gb123, 0, none⟩) (Kd.R_types HO_129001.out BK123.out u39_) (fun _ hk => hk.2) (.string (rdOf ByteArray.empty t124 0))) (fun _ hk => hk.2) (.slice Ao33 x129001_1.length co33)) (fun _ hk => trivial), u23_⟩
      ·rw [if_neg c30] at H
       have c30b0 : (t139.toList == a0.toList) = false := beq_eq_false_iff_ne.mpr c30
       have c30b1 : (t139.toList != a0.toList) = true := bne_iff_ne.mpr c30
       simp only [Option.some.injEq, Prod.mk.injEq] at H
       obtain ⟨rfl, rfl, rfl⟩ := H
       have hnb39 := NB128_123.out
       have hnc39 := NB123_128.out
       have hcz40_0 : wr.cell? ⟨gb128, 0, none⟩ = some (.string (rdOf ByteArray.empty t124 0)) := (blk_cell BK128.out 0).trans rfl
       have hcz40_1 : wr.cell? ⟨gb128, 1, none⟩ = some (u129001) := (blk_cell BK128.out 1).trans rfl
       have hfz40_0 := blk_frozen BK128.out 0
       have hfz40_1 := blk_frozen BK128.out 1
       obtain ⟨Ao41, co41, eo41⟩ := Kd.R_slice HO_129001.out
       subst eo41
       go_wp2_with (first | ((with_reducible refine gate_callee (f := 50) rfl ?_); refine goesL_ (some 42) rfl rfl Tryd.func50 u17_ rfl #[.agg #[.string (rdOf ByteArray.empty t124 0), .slice Ao41 x129001_1.length co41]] rfl u0_ ?_; (with_reducible refine (spec_l2Form.calls k1 (rdOf ByteArray.empty t124 0) _ _ x129001_1 true _ ?side1 ?side2 A27.out).mono ?_); (case side1 => repeat (first | exact (Kd.R_reads' HO_129001.out).2.2 | (with_reducible refine Kd.C_alloc ?_ _) | (with_reducible refine Kd.C_drewN ?_ _) | (with_reducible refine Kd.C_drew ?_))); (case side2 => exact (Kd.R_reads' HO_129001.out).2.1); rintro e w42 ⟨rfl, hb⟩; refine ⟨_, rfl, ?_⟩; have n0_ := Aside0.mk (Kd.R_below u66_ hb); have n1_ := Aside0.mk (Kd.R_below u61_ hb); have n2_ := Aside0.mk (blk_below (g := gb123) (o := .cells #[.string x124000_1, .slice none 0 0] 37 (0, 0)) u51_ hb); have n3_ := Aside0.mk (blk_below (g := gb128) (o := .cells #[.string (rdOf ByteArray.empty t124 0), .slice Ao41 x129001_1.length co41] 37 (0, 0)) u72_ hb); have n4_ := Aside0.mk (below_step u23_ hb); clear HO_4; clear HO_129001; clear BK123; clear BK128; clear HB; have HO_4 := n0_; have HO_129001 := n1_; have BK123 := n2_; have BK128 := n3_; have HB := n4_; clear n0_ n1_ n2_ n3_ n4_; (try clear hb); (try clear hb2); (try clear hk); (try clear hi); have hcz43_0 : w42.cell? ⟨gb128, 0, none⟩ = some (.string (rdOf ByteArray.empty t124 0)) := (blk_cell BK128.out 0).trans rfl; have hcz43_1 : w42.cell? ⟨gb128, 1, none⟩ = some (.slice Ao41 x129001_1.length co41) := (blk_cell BK128.out 1).trans rfl; have hfz43_0 := blk_frozen BK128.out 0; have hfz43_1 := blk_frozen BK128.out 1) | (go_at_call 51; (with_reducible refine (spec_l2DocPut.calls k1 (rdOf ByteArray.empty t124 0) _ _ x129001_1 t139 _ ?side1 ?side2 A29.out).mono ?_); (case side1 => repeat (first | exact (Kd.R_reads' HO_129001.out).2.2 | (with_reducible refine Kd.C_alloc ?_ _) | (with_reducible refine Kd.C_drewN ?_ _) | (with_reducible refine Kd.C_drew ?_))); (case side2 => exact (Kd.R_reads' HO_129001.out).2.1); rintro e w44 ⟨rfl, hb⟩; have n0_ := Aside0.mk (Kd.R_below u66_ hb); have n1_ := Aside0.mk (Kd.R_below u61_ hb); have n2_ := Aside0.mk (blk_below (g := gb123) (o := .cells #[.string x124000_1, .slice none 0 0] 37 (0, 0)) u51_ hb); have n3_ := Aside0.mk (blk_below (g := gb128) (o := .cells #[.string (rdOf ByteArray.empty t124 0), .slice Ao41 x129001_1.length co41] 37 (0, 0)) u72_ hb); have n4_ := Aside0.mk (below_step u23_ hb); clear HO_4; clear HO_129001; clear BK123; clear BK128; clear HB; have HO_4 := n0_; have HO_129001 := n1_; have BK123 := n2_; have BK128 := n3_; have HB := n4_; clear n0_ n1_ n2_ n3_ n4_; (try clear hb); (try clear hb2); (try clear hk); (try clear hi); have hcz45_0 : w44.cell? ⟨gb123, 0, none⟩ = some (.string x124000_1) := (blk_cell BK123.out 0).trans rfl; have hcz45_1 : w44.cell? ⟨gb123, 1, none⟩ = some (.slice none 0 0) := (blk_cell BK123.out 1).trans rfl; have hfz45_0 := blk_frozen BK123.out 0; have hfz45_1 := blk_frozen BK123.out 1))
       refine bodyPost_ret (results_ct rfl _ _ gb123 37 #[.string (⟨#[]⟩ : ByteArray), .slice none 0 0] (0, 0) _ rfl u62_ Tryd.underlying37 rfl u17_) rfl ?_
       exact ⟨_, u7_, u69_, u23_⟩
     ·replace c28 := Bool.eq_false_iff.mpr c28
      subst c28
      have H1 : (some ((⟨#[]⟩ : ByteArray), ([] : List (S74)), false)) = some (r1, r2, r3) := by rw [if_neg (show ¬ (false = true) by decide)] at H; exact H
      clear H
      have H := H1
      clear H1
      simp only [Option.some.injEq, Prod.mk.injEq] at H
      obtain ⟨rfl, rfl, rfl⟩ := H
      have hnb46 := NB128_123.out
      have hnc46 := NB123_128.out
      have hcz47_0 : wr.cell? ⟨gb128, 0, none⟩ = some (.string (rdOf ByteArray.empty t124 0)) := (blk_cell BK128.out 0).trans rfl
      have hcz47_1 : wr.cell? ⟨gb128, 1, none⟩ = some (u129001) := (blk_cell BK128.out 1).trans rfl
      have hfz47_0 := blk_frozen BK128.out 0
      have hfz47_1 := blk_frozen BK128.out 1
      obtain ⟨Ao48, co48, eo48⟩ := Kd.R_slice HO_129001.out
      subst eo48
      go_wp2_with (first | ((with_reducible refine gate_callee (f := 50) rfl ?_); refine goesL_ (some 42) rfl rfl Tryd.func50 u17_ rfl #[.agg #[.string (rdOf ByteArray.empty t124 0), .slice Ao48 x129001_1.length co48]] rfl u0_ ?_; (with_reducible refine (spec_l2Form.calls k1 (rdOf ByteArray.empty t124 0) _ _ x129001_1 false _ ?side1 ?side2 A27.out).mono ?_); (case side1 => repeat (first | exact (Kd.R_reads' HO_129001.out).2.2 | (with_reducible refine Kd.C_alloc ?_ _) | (with_reducible refine Kd.C_drewN ?_ _) | (with_reducible refine Kd.C_drew ?_))); (case side2 => exact (Kd.R_reads' HO_129001.out).2.1); rintro e w49 ⟨rfl, hb⟩; refine ⟨_, rfl, ?_⟩; have n0_ := Aside0.mk (Kd.R_below u66_ hb); have n1_ := Aside0.mk (Kd.R_below u61_ hb); have n2_ := Aside0.mk (blk_below (g := gb123) (o := .cells #[.string x124000_1, .slice none 0 0] 37 (0, 0)) u51_ hb); have n3_ := Aside0.mk (blk_below (g := gb128) (o := .cells #[.string (rdOf ByteArray.empty t124 0), .slice Ao48 x129001_1.length co48] 37 (0, 0)) u72_ hb); have n4_ := Aside0.mk (below_step u23_ hb); clear HO_4; clear HO_129001; clear BK123; clear BK128; clear HB; have HO_4 := n0_; have HO_129001 := n1_; have BK123 := n2_; have BK128 := n3_; have HB := n4_; clear n0_ n1_ n2_ n3_ n4_; (try clear hb); (try clear hb2); (try clear hk); (try clear hi); have hcz50_0 : w49.cell? ⟨gb123, 0, none⟩ = some (.string x124000_1) := (blk_cell BK123.out 0).trans rfl; have hcz50_1 : w49.cell? ⟨gb123, 1, none⟩ = some (.slice none 0 0) := (blk_cell BK123.out 1).trans rfl; have hfz50_0 := blk_frozen BK123.out 0; have hfz50_1 := blk_frozen BK123.out 1))
      refine bodyPost_ret (results_ct rfl _ _ gb123 37 #[.string (⟨#[]⟩ : ByteArray), .slice none 0 0] (0, 0) _ rfl u62_ Tryd.underlying37 rfl u17_) rfl ?_
      exact ⟨_, u7_, u69_, u23_⟩
 ·rw [if_neg c3] at H
  exact absurd H u89_

/-! ### impl_within: function 43 -/
def impl_within.f (a0 : Int) (a1 : Int) (a2 : Int) : Option (Bool) := if a0 ≥ a1 then (some (decide (a0 ≤ a2))) else (some false)
set_option maxHeartbeats 8000000 in
set_option maxRecDepth 100000 in
theorem impl_within.calls (a0 : Int) (a1 : Int) (a2 : Int) (r : Bool) (w : World) (h : impl_within.f a0 a1 a2 = some r) :
  Calls Tryd.prog 43 #[.int .i64 a0, .int .i64 a1, .int .i64 a2] w fun e w' => e = .returned (.bool r) ∧ Drawn0 w w' := by
 have H : (if a0 ≥ a1 then (some (decide (a0 ≤ a2))) else (some false)) = some r := h
 clear h
 by_cases c4 : a0 ≥ a1
 ·rw [if_pos c4] at H
  have c4b0 : decide (a1 ≤ a0) = true := decide_eq_true c4
  clear c4
  obtain rfl := Option.some.inj H
  go_enter Tryd.func43, Tryd.ntmps43
  go_wp2
  go_ret
  exact ⟨u35_, u28_⟩
 ·rw [if_neg c4] at H
  have c4b0 : decide (a1 ≤ a0) = false := decide_eq_false c4
  clear c4
  obtain rfl := Option.some.inj H
  go_enter Tryd.func43, Tryd.ntmps43
  go_wp2
  go_ret
  exact ⟨u35_, u28_⟩

/-! ### impl_lower: function 80 -/
def impl_lower.f (a0 : Int) : Option (Bool) := if a0 ≥ 97 then (some (decide (a0 ≤ 122))) else (some false)
set_option maxHeartbeats 8000000 in
set_option maxRecDepth 100000 in
theorem impl_lower.calls (a0 : Int) (r : Bool) (w : World) (h : impl_lower.f a0 = some r) :
  Calls Tryd.prog 80 #[.int .u8 a0] w fun e w' => e = .returned (.bool r) ∧ Drawn0 w w' := by
 have H : (if a0 ≥ 97 then (some (decide (a0 ≤ 122))) else (some false)) = some r := h
 clear h
 by_cases c2 : a0 ≥ 97
 ·rw [if_pos c2] at H
  have c2b0 : decide (97 ≤ a0) = true := decide_eq_true c2
  clear c2
  obtain rfl := Option.some.inj H
  go_enter Tryd.func80, Tryd.ntmps80
  go_wp2
  go_ret
  exact ⟨u35_, u28_⟩
 ·rw [if_neg c2] at H
  have c2b0 : decide (97 ≤ a0) = false := decide_eq_false c2
  clear c2
  obtain rfl := Option.some.inj H
  go_enter Tryd.func80, Tryd.ntmps80
  go_wp2
  go_ret
  exact ⟨u35_, u28_⟩

/-! ### impl_digit: function 81 -/
def impl_digit.f (a0 : Int) : Option (Bool) := if a0 ≥ 48 then (some (decide (a0 ≤ 57))) else (some false)
set_option maxHeartbeats 8000000 in
set_option maxRecDepth 100000 in
theorem impl_digit.calls (a0 : Int) (r : Bool) (w : World) (h : impl_digit.f a0 = some r) :
  Calls Tryd.prog 81 #[.int .u8 a0] w fun e w' => e = .returned (.bool r) ∧ Drawn0 w w' := by
 have H : (if a0 ≥ 48 then (some (decide (a0 ≤ 57))) else (some false)) = some r := h
 clear h
 by_cases c2 : a0 ≥ 48
 ·rw [if_pos c2] at H
  have c2b0 : decide (48 ≤ a0) = true := decide_eq_true c2
  clear c2
  obtain rfl := Option.some.inj H
  go_enter Tryd.func81, Tryd.ntmps81
  go_wp2
  go_ret
  exact ⟨u35_, u28_⟩
 ·rw [if_neg c2] at H
  have c2b0 : decide (48 ≤ a0) = false := decide_eq_false c2
  clear c2
  obtain rfl := Option.some.inj H
  go_enter Tryd.func81, Tryd.ntmps81
  go_wp2
  go_ret
  exact ⟨u35_, u28_⟩

/-! ### impl_NameOk: function 44 -/
def impl_NameOk.l0 : Nat → ByteArray → Int → Int → Option (Bool)
 | 0, _, _, _ => none
 | k + 1, x0, x5, x6 => if x6 < x5 then (if 0 ≤ x6 then (if x6 < (x0.size : Int) then ((impl_lower.f (bt x0 x6)).bind fun t141 => (if t141 = true then (impl_NameOk.l0 k x0 x5 (wrap64 (x6 + 1))) else (if x6 = 0 then (some false) else ((impl_digit.f (bt x0 x6)).bind fun t142 => (if t142 = true then (impl_NameOk.l0 k x0 x5 (wrap64 (x6 + 1))) else (some false)))))) else (none)) else (none)) else ((impl_within.f (x0.size : Int) 1 8).bind fun t140 => (some t140))
def impl_NameOk.f (k : Nat) (a0 : ByteArray) : Option (Bool) := impl_NameOk.l0 k a0 (a0.size : Int) 0
theorem impl_NameOk.mono_l : ∀ k, (∀ y0 y1 y2, LeO (impl_NameOk.l0 k y0 y1 y2) (impl_NameOk.l0 (k + 1) y0 y1 y2))
 | 0 => fun _ _ _ r h => by simp [impl_NameOk.l0] at h
 | k + 1 => by
  have ih0 := impl_NameOk.mono_l k
  ·intro y0 y1 y2
   unfold impl_NameOk.l0
   repeat' first
   | (with_reducible exact ih0 _ _ _)
   | (with_reducible exact LeO.refl _)
   | (with_reducible exact LeO.none _)
   | (with_reducible refine LeO.ite ?_ ?_)
   | (with_reducible refine LeO.bind ?_ (fun _ => ?_))
   | exact ih0 _ _ _
   | exact LeO.none _
   | refine LeO.ite ?_ ?_
   | refine LeO.bind ?_ (fun _ => ?_)
theorem impl_NameOk.mono : ∀ a0 k, LeO (impl_NameOk.f k a0) (impl_NameOk.f (k + 1) a0) := by
 intro a0 k
 have ih0 := impl_NameOk.mono_l k
 unfold impl_NameOk.f
 repeat' first
   | (with_reducible exact ih0 _ _ _)
   | (with_reducible exact LeO.refl _)
   | (with_reducible exact LeO.none _)
   | (with_reducible refine LeO.ite ?_ ?_)
   | (with_reducible refine LeO.bind ?_ (fun _ => ?_))
   | exact ih0 _ _ _
   | exact LeO.none _
   | refine LeO.ite ?_ ?_
   | refine LeO.bind ?_ (fun _ => ?_)
set_option maxHeartbeats 8000000 in
set_option maxRecDepth 100000 in
theorem impl_NameOk.calls (k : Nat) (a0 : ByteArray) (r : Bool) (w : World) (h : impl_NameOk.f k a0 = some r) :
  Calls Tryd.prog 44 #[.string a0] w fun e w' => e = .returned (.bool r) ∧ Drawn0 w w' := by
 have H : (impl_NameOk.l0 k a0 (a0.size : Int) 0) = some r := h
 clear h
 have H' := Aside0.mk H
 clear H
 go_enter Tryd.func44, Tryd.ntmps44
 go_wp2
 go_loopg [6] k (fun kq v6 w' => ∃ (x6_1 : Int), v6 = .int .i64 x6_1 ∧ Aside0 (impl_NameOk.l0 kq a0 (a0.size : Int) x6_1 = some r) ∧ Aside0 (kq ≤ k) ∧ Drawn0 w w')
 case atStart => exact ⟨(0), u22_, H', ⟨Nat.le_refl _⟩, u28_⟩
 case round =>
  clear H'
  obtain ⟨x6_1, rfl, HA, HK1, ⟨m1, rfl⟩⟩ := hrel
  cases gk with
  | zero => exact absurd HA.out (by simp [impl_NameOk.l0])
  | succ k1 =>
   have H := HA.out
   clear HA
   simp only [impl_NameOk.l0] at H
   by_cases c2 : x6_1 < (a0.size : Int)
   ·rw [if_pos c2] at H
    have c2b0 : decide (x6_1 < (a0.size : Int)) = true := decide_eq_true c2
    clear c2
    by_cases c3 : 0 ≤ x6_1
    ·rw [if_pos c3] at H
     have c3b0 : decide (0 ≤ x6_1) = true := decide_eq_true c3
     clear c3
     by_cases c4 : x6_1 < (a0.size : Int)
     ·rw [if_pos c4] at H
      have c4b0 : decide (x6_1 < (a0.size : Int)) = true := decide_eq_true c4
      clear c4
      replace H := Option.bind_eq_some_iff.mp H
      obtain ⟨t141, A60, H⟩ := H
      replace H : (if t141 = true then (impl_NameOk.l0 k1 a0 (a0.size : Int) (wrap64 (x6_1 + 1))) else (if x6_1 = 0 then (some false) else ((impl_digit.f (bt a0 x6_1)).bind fun t142 => (if t142 = true then (impl_NameOk.l0 k1 a0 (a0.size : Int) (wrap64 (x6_1 + 1))) else (some false))))) = some r := H
      have A6 := Aside0.mk A60
      clear A60
      by_cases c7 : t141 = true
      ·subst c7
       have H1 : (impl_NameOk.l0 k1 a0 (a0.size : Int) (wrap64 (x6_1 + 1))) = some r := by rw [if_pos rfl] at H; exact H
       clear H
       have H := H1
       clear H1
       have H' := Aside0.mk H
       clear H
       have p5 : 0 ≤ (x6_1 : Int) := of_decide_eq_true u1_
       have q5 : x6_1 < (a0.size : Int) := of_decide_eq_true u1_
       have hx5 := bt_at a0 x6_1
       replace p5 := eq_true p5
       replace q5 := eq_true q5
       go_wp2_with (first | ((with_reducible refine gate_callee (f := 80) rfl ?_); refine goesL_ (some 12) rfl rfl Tryd.func80 u17_ rfl #[.int .u8 (bt a0 x6_1)] rfl u0_ ?_; (with_reducible refine (impl_lower.calls (bt a0 x6_1) true _ A6.out).mono ?_); rintro e w' ⟨rfl, ⟨nd, rfl⟩⟩; refine ⟨_, rfl, ?_⟩))
       go_roundg k1
       case measure => have := HK1.out; omega
       case rel => exact ⟨(wrap64 (x6_1 + 1)), u22_, H', ⟨u102_⟩, u28_⟩
      ·replace c7 := Bool.eq_false_iff.mpr c7
       subst c7
       have H1 : (if x6_1 = 0 then (some false) else ((impl_digit.f (bt a0 x6_1)).bind fun t142 => (if t142 = true then (impl_NameOk.l0 k1 a0 (a0.size : Int) (wrap64 (x6_1 + 1))) else (some false)))) = some r := by rw [if_neg (show ¬ (false = true) by decide)] at H; exact H
       clear H
       have H := H1
       clear H1
       by_cases c8 : x6_1 = 0
       ·rw [if_pos c8] at H
        have c8b0 : (x6_1 == 0) = true := beq_iff_eq.mpr c8
        have c8b1 : (x6_1 != 0) = false := bne_eq_false_iff_eq.mpr c8
        clear c8
        obtain rfl := Option.some.inj H
        have p5 : 0 ≤ (x6_1 : Int) := of_decide_eq_true u1_
        have q5 : x6_1 < (a0.size : Int) := of_decide_eq_true u1_
        have hx5 := bt_at a0 x6_1
        replace p5 := eq_true p5
        replace q5 := eq_true q5
        go_wp2_with (first | ((with_reducible refine gate_callee (f := 80) rfl ?_); refine goesL_ (some 12) rfl rfl Tryd.func80 u17_ rfl #[.int .u8 (bt a0 x6_1)] rfl u0_ ?_; (with_reducible refine (impl_lower.calls (bt a0 x6_1) false _ A6.out).mono ?_); rintro e w' ⟨rfl, ⟨nd, rfl⟩⟩; refine ⟨_, rfl, ?_⟩))
        go_ret
        exact ⟨u35_, u28_⟩
       ·rw [if_neg c8] at H
        have c8b0 : (x6_1 == 0) = false := beq_eq_false_iff_ne.mpr c8
        have c8b1 : (x6_1 != 0) = true := bne_iff_ne.mpr c8
        replace H := Option.bind_eq_some_iff.mp H
        obtain ⟨t142, A100, H⟩ := H
        replace H : (if t142 = true then (impl_NameOk.l0 k1 a0 (a0.size : Int) (wrap64 (x6_1 + 1))) else (some false)) = some r := H
        have A10 := Aside0.mk A100
        clear A100
        by_cases c11 : t142 = true
        ·subst c11
         have H1 : (impl_NameOk.l0 k1 a0 (a0.size : Int) (wrap64 (x6_1 + 1))) = some r := by rw [if_pos rfl] at H; exact H
         clear H
         have H := H1
         clear H1
         have H' := Aside0.mk H
         clear H
         have p5 : 0 ≤ (x6_1 : Int) := of_decide_eq_true u1_
         have q5 : x6_1 < (a0.size : Int) := of_decide_eq_true u1_
         have hx5 := bt_at a0 x6_1
         replace p5 := eq_true p5
         replace q5 := eq_true q5
         go_wp2_with (first | ((with_reducible refine gate_callee (f := 80) rfl ?_); refine goesL_ (some 12) rfl rfl Tryd.func80 u17_ rfl #[.int .u8 (bt a0 x6_1)] rfl u0_ ?_; (with_reducible refine (impl_lower.calls (bt a0 x6_1) false _ A6.out).mono ?_); rintro e w' ⟨rfl, ⟨nd, rfl⟩⟩; refine ⟨_, rfl, ?_⟩; have p9 : 0 ≤ (x6_1 : Int) := of_decide_eq_true u1_; have q9 : x6_1 < (a0.size : Int) := of_decide_eq_true u1_; have hx9 := bt_at a0 x6_1; replace p9 := eq_true p9; replace q9 := eq_true q9) | (go_at_call 81; (with_reducible refine (impl_digit.calls (bt a0 x6_1) true _ A10.out).mono ?_); rintro e w' ⟨rfl, ⟨nd, rfl⟩⟩))
         go_roundg k1
         case measure => have := HK1.out; omega
         case rel => exact ⟨(wrap64 (x6_1 + 1)), u22_, H', ⟨u102_⟩, u28_⟩
        ·replace c11 := Bool.eq_false_iff.mpr c11
         subst c11
         have H1 : (some false) = some r := by rw [if_neg (show ¬ (false = true) by decide)] at H; exact H
         clear H
         have H := H1
         clear H1
         obtain rfl := Option.some.inj H
         have p5 : 0 ≤ (x6_1 : Int) := of_decide_eq_true u1_
         have q5 : x6_1 < (a0.size : Int) := of_decide_eq_true u1_
         have hx5 := bt_at a0 x6_1
         replace p5 := eq_true p5
         replace q5 := eq_true q5
         go_wp2_with (first | ((with_reducible refine gate_callee (f := 80) rfl ?_); refine goesL_ (some 12) rfl rfl Tryd.func80 u17_ rfl #[.int .u8 (bt a0 x6_1)] rfl u0_ ?_; (with_reducible refine (impl_lower.calls (bt a0 x6_1) false _ A6.out).mono ?_); rintro e w' ⟨rfl, ⟨nd, rfl⟩⟩; refine ⟨_, rfl, ?_⟩; have p9 : 0 ≤ (x6_1 : Int) := of_decide_eq_true u1_; have q9 : x6_1 < (a0.size : Int) := of_decide_eq_true u1_; have hx9 := bt_at a0 x6_1; replace p9 := eq_true p9; replace q9 := eq_true q9) | (go_at_call 81; (with_reducible refine (impl_digit.calls (bt a0 x6_1) false _ A10.out).mono ?_); rintro e w' ⟨rfl, ⟨nd, rfl⟩⟩))
         go_ret
         exact ⟨u35_, u28_⟩
     ·rw [if_neg c4] at H
      exact absurd H u89_
    ·rw [if_neg c3] at H
     exact absurd H u89_
   ·rw [if_neg c2] at H
    have c2b0 : decide (x6_1 < (a0.size : Int)) = false := decide_eq_false c2
    clear c2
    replace H := Option.bind_eq_some_iff.mp H
    obtain ⟨t140, A120, H⟩ := H
    replace H : (some t140) = some r := H
    have A12 := Aside0.mk A120
    clear A120
    obtain rfl := Option.some.inj H
    go_wp2_with (first | ((with_reducible refine gate_callee (f := 43) rfl ?_); refine goesL_ (some 28) rfl rfl Tryd.func43 u17_ rfl #[.int .i64 (a0.size : Int), .int .i64 1, .int .i64 8] rfl u0_ ?_; (with_reducible refine (impl_within.calls (a0.size : Int) 1 8 t140 _ A12.out).mono ?_); rintro e w' ⟨rfl, ⟨nd, rfl⟩⟩; refine ⟨_, rfl, ?_⟩))
    go_ret
    exact ⟨u35_, u28_⟩

end Go.Proofs.YtglcgkbecfmegaaDoor.PFnDoc
