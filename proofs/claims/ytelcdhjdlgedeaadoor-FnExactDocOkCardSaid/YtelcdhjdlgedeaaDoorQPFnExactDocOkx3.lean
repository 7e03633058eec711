/- Contracts of Go functions that the law FnExactDocOk reaches: each is told as a plain Lean function, with the walk that shows it; no condition beyond what each states. Written by a program of this session round the kit's printer. -/
import Derived.Test.YtelcdhjdlgedeaaDoorQPFnExactDocOkx0
import Derived.Test.YtelcdhjdlgedeaaDoorQPFnExactDocOkx1
import Derived.Test.YtelcdhjdlgedeaaDoorQPFnExactDocOkx2
namespace Go.Proofs.YtelcdhjdlgedeaaDoor.PFnExactDocOk
open Go.RowKit Go.Proofs.YtelcdhjdlgedeaaDoorW.PrintWords Go.Proofs.YtelcdhjdlgedeaaDoorW.PrintLast Go.Proofs.YtelcdhjdlgedeaaDoorW.PrintMore
attribute [local go_sem] run_str_geq run_str_leq max2_int min2_int max_two min_two max_three min_three max_four min_four   -- for this text's walks alone
set_option linter.unusedVariables false
set_option linter.unusedSimpArgs false

/-! ### impl_fieldOf: function 61 -/
def impl_fieldOf.l0 : Nat → ByteArray → List (S75) → Int → Int → Option (ByteArray × Int × Int)
 | 0, _, _, _, _ => none
 | k + 1, x1, x7, x8, x9 => if x9 < x8 then (if 0 ≤ x9 then (if x9 < (x7.length : Int) then (if ((rd_T75 x7 x9).f0).toList = x1.toList then (some ((rd_T75 x7 x9).f0, (rd_T75 x7 x9).f1, (rd_T75 x7 x9).f2)) else (impl_fieldOf.l0 k x1 x7 x8 (wrap64 (x9 + 1)))) else (none)) else (none)) else (some ((⟨#[]⟩ : ByteArray), 0, 0))
def impl_fieldOf.f (k : Nat) (l0 : List (S75)) (a1 : ByteArray) : Option (ByteArray × Int × Int) := impl_fieldOf.l0 k a1 l0 (l0.length : Int) 0
theorem impl_fieldOf.mono_l : ∀ k, (∀ y0 y1 y2 y3, LeO (impl_fieldOf.l0 k y0 y1 y2 y3) (impl_fieldOf.l0 (k + 1) y0 y1 y2 y3))
 | 0 => fun _ _ _ _ r h => by simp [impl_fieldOf.l0] at h
 | k + 1 => by
  have ih0 := impl_fieldOf.mono_l k
  ·intro y0 y1 y2 y3
   unfold impl_fieldOf.l0
   repeat' first
   | (with_reducible exact ih0 _ _ _ _)
   | (with_reducible exact LeO.refl _)
   | (with_reducible exact LeO.none _)
   | (with_reducible refine LeO.ite ?_ ?_)
   | (with_reducible refine LeO.bind ?_ (fun _ => ?_))
   | exact ih0 _ _ _ _
   | exact LeO.none _
   | refine LeO.ite ?_ ?_
   | refine LeO.bind ?_ (fun _ => ?_)
theorem impl_fieldOf.mono : ∀ a0 a1 k, LeO (impl_fieldOf.f k a0 a1) (impl_fieldOf.f (k + 1) a0 a1) := by
 intro a0 a1 k
 have ih0 := impl_fieldOf.mono_l k
 unfold impl_fieldOf.f
 repeat' first
   | (with_reducible exact ih0 _ _ _ _)
   | (with_reducible exact LeO.refl _)
   | (with_reducible exact LeO.none _)
   | (with_reducible refine LeO.ite ?_ ?_)
   | (with_reducible refine LeO.bind ?_ (fun _ => ?_))
   | exact ih0 _ _ _ _
   | exact LeO.none _
   | refine LeO.ite ?_ ?_
   | refine LeO.bind ?_ (fun _ => ?_)
set_option maxHeartbeats 8000000 in
set_option maxRecDepth 100000 in
theorem impl_fieldOf.calls (k : Nat) (A0 : Option Addr) (c0 : Nat) (l0 : List (S75)) (a1 : ByteArray) (r1 : ByteArray) (r2 : Int) (r3 : Int) (w : World) (hr0 : Kd.C k75 w A0 l0.length l0) (hc0 : l0.length ≤ c0) (h : impl_fieldOf.f k l0 a1 = some (r1, r2, r3)) :
  Calls Tryd.prog 61 #[.slice A0 l0.length c0, .string a1] w fun e w' => e = .returned (.agg #[.string r1, .int .i64 r2, .int .i64 r3]) ∧ Below w.heap.size w w' := by
 have hu75 := Tryd.underlying75
 have HR0 := Aside0.mk hr0
 have HC0 := Aside0.mk hc0
 clear hr0 hc0
 have HB := Aside0.mk (Below.refl w.heap.size w)
 have H : (impl_fieldOf.l0 k a1 l0 (l0.length : Int) 0) = some (r1, r2, r3) := h
 clear h
 have H' := Aside0.mk H
 clear H
 go_enter Tryd.func61, Tryd.ntmps61
 go_wp2_with (first | ((with_reducible refine gate_dst (N := 4) rfl ?_); refine box_event ?hg (N := 4) ?hd (cs := #[.string (⟨#[]⟩ : ByteArray), .int .i64 0, .int .i64 0]) (t := 75) ?hr ?_; (case hd => rfl); (case hg => rfl); (case hr => first | (go_simp; done) | (go_simp; rfl)); intro gb133 hg w3 hbox hb; have n0_ := Aside0.mk (below_step u0_ hb); have n1_ := Aside0.mk (hbox); have n2_ := Aside0.mk ((by rw [hg]; exact (below_size u0_) : w.heap.size ≤ gb133)); have n3_ := n2_; clear HB; have HB := n0_; have BK133 := n1_; have GW133 := n2_; have GE133 := n3_; clear n0_ n1_ n2_ n3_; clear hb hbox hg))
 go_loopg [9] k (fun kq v9 w' => ∃ (x9_1 : Int) (x134000_1 : ByteArray) (x134001_1 : Int) (x134002_1 : Int), v9 = .int .i64 x9_1 ∧ Aside0 (impl_fieldOf.l0 kq a1 l0 (l0.length : Int) x9_1 = some (r1, r2, r3)) ∧ Aside0 (kq ≤ k) ∧ Aside0 (w'.heap[gb133]? = some (.cells #[.string x134000_1, .int .i64 x134001_1, .int .i64 x134002_1] 75 (0, 0))) ∧ Aside0 (Below w.heap.size w w'))
 case atStart => exact ⟨(0), ((⟨#[]⟩ : ByteArray)), (0), (0), u16_, H', ⟨Nat.le_refl _⟩, ⟨u53_⟩, ⟨u44_⟩⟩
 case round =>
  clear H'
  try clear p2
  obtain ⟨x9_1, x134000_1, x134001_1, x134002_1, rfl, HA, HK1, BK133, HB⟩ := hrel
  cases gk with
  | zero => exact absurd HA.out (by simp [impl_fieldOf.l0])
  | succ k1 =>
   have H := HA.out
   clear HA
   simp only [impl_fieldOf.l0] at H
   by_cases c4 : x9_1 < (l0.length : Int)
   ·rw [if_pos c4] at H
    have c4b0 : decide (x9_1 < (l0.length : Int)) = true := decide_eq_true c4
    clear c4
    by_cases c5 : 0 ≤ x9_1
    ·rw [if_pos c5] at H
     have c5b0 : decide (0 ≤ x9_1) = true := decide_eq_true c5
     clear c5
     by_cases c6 : x9_1 < (l0.length : Int)
     ·rw [if_pos c6] at H
      have c6b0 : decide (x9_1 < (l0.length : Int)) = true := decide_eq_true c6
      clear c6
      by_cases c7 : ((rd_T75 l0 x9_1).f0).toList = a1.toList
      ·rw [if_pos c7] at H
       have c7b0 : (((rd_T75 l0 x9_1).f0).toList == a1.toList) = true := beq_iff_eq.mpr c7
       have c7b1 : (((rd_T75 l0 x9_1).f0).toList != a1.toList) = false := bne_eq_false_iff_eq.mpr c7
       clear c7
       simp only [Option.some.injEq, Prod.mk.injEq] at H
       obtain ⟨rfl, rfl, rfl⟩ := H
       have p134 : 0 ≤ (x9_1 : Int) := of_decide_eq_true u2_
       have q134 : x9_1 < (l0.length : Int) := of_decide_eq_true u2_
       obtain ⟨ad134, e134, hx134_0, hx134_1, hx134_2⟩ := at_T75 HR0.out x9_1 p134 q134
       cases e134
       replace hx134_0 := (HB.out.cell (World.block_lt_of_cell? w _ hx134_0)).trans hx134_0
       replace hx134_1 := (HB.out.cell (World.block_lt_of_cell? w _ hx134_1)).trans hx134_1
       replace hx134_2 := (HB.out.cell (World.block_lt_of_cell? w _ hx134_2)).trans hx134_2
       replace p134 := eq_true p134
       replace q134 := eq_true q134
       go_wp2_with (first | ((with_reducible refine gate_dst (N := 6) rfl ?_); refine box_event ?hg (N := 6) ?hd (cs := #[.string (⟨#[]⟩ : ByteArray), .int .i64 0, .int .i64 0]) (t := 75) ?hr ?_; (case hd => rfl); (case hg => rfl); (case hr => first | (go_simp; done) | (go_simp; rfl)); intro gb135 hg w8 hbox hb; have n0_ := Aside0.mk (blk_below (g := gb133) (o := .cells #[.string x134000_1, .int .i64 x134001_1, .int .i64 x134002_1] 75 (0, 0)) u53_ hb); have n1_ := Aside0.mk (below_step u44_ hb); have n2_ := Aside0.mk (hbox); have n3_ := Aside0.mk ((by rw [hg]; exact (below_size u44_) : w.heap.size ≤ gb135)); have n4_ := n3_; have n5_ := Aside0.mk ((by rw [hg]; exact Nat.ne_of_lt (blk_lt (g := gb133) (o := .cells #[.string x134000_1, .int .i64 x134001_1, .int .i64 x134002_1] 75 (0, 0)) u53_) : gb133 ≠ gb135)); have n6_ := Aside0.mk ((by rw [hg]; exact Nat.ne_of_gt (blk_lt (g := gb133) (o := .cells #[.string x134000_1, .int .i64 x134001_1, .int .i64 x134002_1] 75 (0, 0)) u53_) : gb135 ≠ gb133)); clear BK133; clear HB; have BK133 := n0_; have HB := n1_; have BK135 := n2_; have GW135 := n3_; have GE135 := n4_; have NB133_135 := n5_; have NB135_133 := n6_; clear n0_ n1_ n2_ n3_ n4_ n5_ n6_; clear hb hbox hg; have hnb9 := NB135_133.out; have hnc9 := NB133_135.out; have hcz10_0 : w8.cell? ⟨gb135, 0, none⟩ = some (.string (⟨#[]⟩ : ByteArray)) := (blk_cell BK135.out 0).trans rfl; have hcz10_1 : w8.cell? ⟨gb135, 1, none⟩ = some (.int .i64 0) := (blk_cell BK135.out 1).trans rfl; have hcz10_2 : w8.cell? ⟨gb135, 2, none⟩ = some (.int .i64 0) := (blk_cell BK135.out 2).trans rfl; have hfz10_0 := blk_frozen BK135.out 0; have hfz10_1 := blk_frozen BK135.out 1; have hfz10_2 := blk_frozen BK135.out 2; have hcz11_0 : w8.cell? ⟨gb133, 0, none⟩ = some (.string x134000_1) := (blk_cell BK133.out 0).trans rfl; have hcz11_1 : w8.cell? ⟨gb133, 1, none⟩ = some (.int .i64 x134001_1) := (blk_cell BK133.out 1).trans rfl; have hcz11_2 : w8.cell? ⟨gb133, 2, none⟩ = some (.int .i64 x134002_1) := (blk_cell BK133.out 2).trans rfl; have hfz11_0 := blk_frozen BK133.out 0; have hfz11_1 := blk_frozen BK133.out 1; have hfz11_2 := blk_frozen BK133.out 2))
       refine bodyPost_ret (results_cell_row rfl _ _ gb133 75 #[.string ((rd_T75 l0 x9_1).f0), .int .i64 ((rd_T75 l0 x9_1).f1), .int .i64 ((rd_T75 l0 x9_1).f2)] (0, 0) _ rfl (by (with_reducible repeat (first | refine blk_drewN ?_ _ | refine blk_drew ?_ | refine blk_alloc ?_ _)); refine blk_put (cs := #[.string ((rd_T75 l0 x9_1).f0), .int .i64 ((rd_T75 l0 x9_1).f1), .int .i64 x134002_1]) ?_ 2 _ rfl; (with_reducible repeat (first | refine blk_drewN ?_ _ | refine blk_drew ?_ | refine blk_alloc ?_ _)); refine blk_put (cs := #[.string ((rd_T75 l0 x9_1).f0), .int .i64 x134001_1, .int .i64 x134002_1]) ?_ 1 _ rfl; (with_reducible repeat (first | refine blk_drewN ?_ _ | refine blk_drew ?_ | refine blk_alloc ?_ _)); refine blk_put (cs := #[.string x134000_1, .int .i64 x134001_1, .int .i64 x134002_1]) ?_ 0 _ rfl; (with_reducible repeat (first | refine blk_drewN ?_ _ | refine blk_drew ?_ | refine blk_alloc ?_ _)); refine blk_far ?_ NB133_135.out _; (with_reducible repeat (first | refine blk_drewN ?_ _ | refine blk_drew ?_ | refine blk_alloc ?_ _)); refine blk_far ?_ NB133_135.out _; (with_reducible repeat (first | refine blk_drewN ?_ _ | refine blk_drew ?_ | refine blk_alloc ?_ _)); refine blk_far ?_ NB133_135.out _; (with_reducible repeat (first | refine blk_drewN ?_ _ | refine blk_drew ?_ | refine blk_alloc ?_ _)); exact BK133.out) Tryd.underlying75 rfl u7_) rfl ?_
       exact ⟨u3_, by repeat (first | (with_reducible first | exact HB.out | apply below_alloc | apply pw_below_drewN | apply below_drew1 | refine below_set ?_ GE133.out | refine below_set ?_ GE135.out) | exact HB.out)⟩
      ·rw [if_neg c7] at H
       have c7b0 : (((rd_T75 l0 x9_1).f0).toList == a1.toList) = false := beq_eq_false_iff_ne.mpr c7
       have c7b1 : (((rd_T75 l0 x9_1).f0).toList != a1.toList) = true := bne_iff_ne.mpr c7
       have H' := Aside0.mk H
       clear H
       have p134 : 0 ≤ (x9_1 : Int) := of_decide_eq_true u2_
       have q134 : x9_1 < (l0.length : Int) := of_decide_eq_true u2_
       obtain ⟨ad134, e134, hx134_0, hx134_1, hx134_2⟩ := at_T75 HR0.out x9_1 p134 q134
       cases e134
       replace hx134_0 := (HB.out.cell (World.block_lt_of_cell? w _ hx134_0)).trans hx134_0
       replace hx134_1 := (HB.out.cell (World.block_lt_of_cell? w _ hx134_1)).trans hx134_1
       replace hx134_2 := (HB.out.cell (World.block_lt_of_cell? w _ hx134_2)).trans hx134_2
       replace p134 := eq_true p134
       replace q134 := eq_true q134
       go_wp2_with (first | ((with_reducible refine gate_dst (N := 6) rfl ?_); refine box_event ?hg (N := 6) ?hd (cs := #[.string (⟨#[]⟩ : ByteArray), .int .i64 0, .int .i64 0]) (t := 75) ?hr ?_; (case hd => rfl); (case hg => rfl); (case hr => first | (go_simp; done) | (go_simp; rfl)); intro gb135 hg w12 hbox hb; have n0_ := Aside0.mk (blk_below (g := gb133) (o := .cells #[.string x134000_1, .int .i64 x134001_1, .int .i64 x134002_1] 75 (0, 0)) u53_ hb); have n1_ := Aside0.mk (below_step u44_ hb); have n2_ := Aside0.mk (hbox); have n3_ := Aside0.mk ((by rw [hg]; exact (below_size u44_) : w.heap.size ≤ gb135)); have n4_ := n3_; have n5_ := Aside0.mk ((by rw [hg]; exact Nat.ne_of_lt (blk_lt (g := gb133) (o := .cells #[.string x134000_1, .int .i64 x134001_1, .int .i64 x134002_1] 75 (0, 0)) u53_) : gb133 ≠ gb135)); have n6_ := Aside0.mk ((by rw [hg]; exact Nat.ne_of_gt (blk_lt (g := gb133) (o := .cells #[.string x134000_1, .int .i64 x134001_1, .int .i64 x134002_1] 75 (0, 0)) u53_) : gb135 ≠ gb133)); clear BK133; clear HB; have BK133 := n0_; have HB := n1_; have BK135 := n2_; have GW135 := n3_; have GE135 := n4_; have NB133_135 := n5_; have NB135_133 := n6_; clear n0_ n1_ n2_ n3_ n4_ n5_ n6_; clear hb hbox hg; have hnb13 := NB135_133.out; have hnc13 := NB133_135.out; have hcz14_0 : w12.cell? ⟨gb135, 0, none⟩ = some (.string (⟨#[]⟩ : ByteArray)) := (blk_cell BK135.out 0).trans rfl; have hcz14_1 : w12.cell? ⟨gb135, 1, none⟩ = some (.int .i64 0) := (blk_cell BK135.out 1).trans rfl; have hcz14_2 : w12.cell? ⟨gb135, 2, none⟩ = some (.int .i64 0) := (blk_cell BK135.out 2).trans rfl; have hfz14_0 := blk_frozen BK135.out 0; have hfz14_1 := blk_frozen BK135.out 1; have hfz14_2 := blk_frozen BK135.out 2))
       go_roundg k1
       case measure => have := HK1.out; omega
       case rel => exact ⟨(wrap64 (x9_1 + 1)), (x134000_1), (x134001_1), (x134002_1), u16_, H', ⟨u65_⟩, ⟨by (with_reducible repeat (first | refine blk_drewN ?_ _ | refine blk_drew ?_ | refine blk_alloc ?_ _)); refine blk_far ?_ NB133_135.out _; (with_reducible repeat (first | refine blk_drewN ?_ _ | refine blk_drew ?_ | refine blk_alloc ?_ _)); refine blk_far ?_ NB133_135.out _; (with_reducible repeat (first | refine blk_drewN ?_ _ | refine blk_drew ?_ | refine blk_alloc ?_ _)); refine blk_far ?_ NB133_135.out _; (with_reducible repeat (first | refine blk_drewN ?_ _ | refine blk_drew ?_ | refine blk_alloc ?_ _)); exact BK133.out⟩, ⟨by repeat (first | (with_reducible first | exact HB.out | apply below_alloc | apply pw_below_drewN | apply below_drew1 | refine below_set ?_ GE133.out | refine below_set ?_ GE135.out) | exact HB.out)⟩⟩
     ·rw [if_neg c6] at H
      exact absurd H u75_
    ·rw [if_neg c5] at H
     exact absurd H u75_
   ·rw [if_neg c4] at H
    have c4b0 : decide (x9_1 < (l0.length : Int)) = false := decide_eq_false c4
    clear c4
    simp only [Option.some.injEq, Prod.mk.injEq] at H
    obtain ⟨rfl, rfl, rfl⟩ := H
    have hcz15_0 : wr.cell? ⟨gb133, 0, none⟩ = some (.string x134000_1) := (blk_cell BK133.out 0).trans rfl
    have hcz15_1 : wr.cell? ⟨gb133, 1, none⟩ = some (.int .i64 x134001_1) := (blk_cell BK133.out 1).trans rfl
    have hcz15_2 : wr.cell? ⟨gb133, 2, none⟩ = some (.int .i64 x134002_1) := (blk_cell BK133.out 2).trans rfl
    have hfz15_0 := blk_frozen BK133.out 0
    have hfz15_1 := blk_frozen BK133.out 1
    have hfz15_2 := blk_frozen BK133.out 2
    go_wp2
    refine bodyPost_ret (results_cell_row rfl _ _ gb133 75 #[.string (⟨#[]⟩ : ByteArray), .int .i64 0, .int .i64 0] (0, 0) _ rfl (by (with_reducible repeat (first | refine blk_drewN ?_ _ | refine blk_drew ?_ | refine blk_alloc ?_ _)); refine blk_put (cs := #[.string (⟨#[]⟩ : ByteArray), .int .i64 0, .int .i64 x134002_1]) ?_ 2 _ rfl; (with_reducible repeat (first | refine blk_drewN ?_ _ | refine blk_drew ?_ | refine blk_alloc ?_ _)); refine blk_put (cs := #[.string (⟨#[]⟩ : ByteArray), .int .i64 x134001_1, .int .i64 x134002_1]) ?_ 1 _ rfl; (with_reducible repeat (first | refine blk_drewN ?_ _ | refine blk_drew ?_ | refine blk_alloc ?_ _)); refine blk_put (cs := #[.string x134000_1, .int .i64 x134001_1, .int .i64 x134002_1]) ?_ 0 _ rfl; (with_reducible repeat (first | refine blk_drewN ?_ _ | refine blk_drew ?_ | refine blk_alloc ?_ _)); exact BK133.out) Tryd.underlying75 rfl u7_) rfl ?_
    exact ⟨u3_, u44_⟩

/-! ### strings_Split: function 44 -/
def strings_Split.f (a0 a1 : ByteArray) : Option (List ByteArray) := if a0.size < 4294967281 ∧ 1 ≤ a1.size then some (Lib.splitB a1 0 (Lib.countB a0 a1) a0) else none
theorem strings_Split.calls (a0 a1 : ByteArray) (r : List ByteArray) (w : World) (hG : StopsIn w) (h : strings_Split.f a0 a1 = some r) :
  Calls Tryd.prog 44 #[.string a0, .string a1] w fun e w' => ∃ v0_ : Value, e = .returned (v0_) ∧ Kd.R Kd.string 9 w' w.heap.size (fun _ => True) v0_ r ∧ Below w.heap.size w w' := by
 unfold strings_Split.f at h
 by_cases hs : a0.size < 4294967281 ∧ 1 ≤ a1.size
 case neg => rw [if_neg hs] at h; exact absurd h u75_
 rw [if_pos hs] at h
 have h := Option.some.inj h
 obtain ⟨m, hm⟩ := hG.max
 have hle := Lib.countB_le a1 hs.2 a0.size a0 (Nat.le_refl _)
 have hlen := Lib.splitB_all a1 hs.2 0 _ a0 rfl
 rw [h] at hlen
 refine (Go.Proofs.Tryd.strings_Split a0 a1 m w hs.1 hm hs.2).mono ?_
 rintro e w' ⟨rfl, rfl⟩
 rw [h]
 refine ⟨_, rfl, ?_, below_alloc (Below.refl _ _) _⟩
 have hh : (w.alloc (.cells (r.map Value.string).toArray 9)).heap[w.heap.size]? = some (.cells (r.map Value.string).toArray 9 (0, 0)) := by
  unfold World.alloc
  simp
 have hx := row_mk (enc := Value.string) (h1 := fun _ => rfl) (ok := fun _ => True) (xs := r) (cap := Lib.countB a0 a1 + 1) (Nat.le_refl _) hh (by omega) (by have : maxLen = 9223372036854775807 := rfl; omega) (by simp [hlen]) trivial (fun j x hj => by simp [hj])
 rw [hlen] at hx
 exact hx

/-! ### impl_tagsOk: function 62 -/
def impl_tagsOk.l0 : Nat → List ByteArray → List ByteArray → Int → Int → Option (Bool)
 | 0, _, _, _, _ => none
 | k + 1, x3, x8, x9, x10 => if x10 < x9 then (if 0 ≤ x10 then (if x10 < (x8.length : Int) then ((impl_NameOk.f k (rdOf ByteArray.empty x8 x10)).bind fun t140 => (if t140 = true then (impl_tagsOk.l0 k x3 x8 x9 (wrap64 (x10 + 1))) else (some false))) else (none)) else (none)) else (some (decide ((x3.length : Int) ≤ 4)))
def impl_tagsOk.f (k : Nat) (a0 : ByteArray) : Option (Bool) := (strings_Split.f a0 (⟨#[44]⟩ : ByteArray)).bind fun t136 => (impl_tagsOk.l0 k t136 t136 (t136.length : Int) 0)
theorem impl_tagsOk.mono_l : ∀ k, (∀ y0 y1 y2 y3, LeO (impl_tagsOk.l0 k y0 y1 y2 y3) (impl_tagsOk.l0 (k + 1) y0 y1 y2 y3))
 | 0 => fun _ _ _ _ r h => by simp [impl_tagsOk.l0] at h
 | k + 1 => by
  have ih0 := impl_tagsOk.mono_l k
  ·intro y0 y1 y2 y3
   unfold impl_tagsOk.l0
   repeat' first
   | (with_reducible exact ih0 _ _ _ _)
   | (with_reducible exact impl_NameOk.mono _ _)
   | (with_reducible exact LeO.refl _)
   | (with_reducible exact LeO.none _)
   | (with_reducible refine LeO.ite ?_ ?_)
   | (with_reducible refine LeO.bind ?_ (fun _ => ?_))
   | exact ih0 _ _ _ _
   | exact impl_NameOk.mono _ _
   | exact LeO.none _
   | refine LeO.ite ?_ ?_
   | refine LeO.bind ?_ (fun _ => ?_)
theorem impl_tagsOk.mono : ∀ a0 k, LeO (impl_tagsOk.f k a0) (impl_tagsOk.f (k + 1) a0) := by
 intro a0 k
 have ih0 := impl_tagsOk.mono_l k
 unfold impl_tagsOk.f
 repeat' first
   | (with_reducible exact ih0 _ _ _ _)
   | (with_reducible exact impl_NameOk.mono _ _)
   | (with_reducible exact LeO.refl _)
   | (with_reducible exact LeO.none _)
   | (with_reducible refine LeO.ite ?_ ?_)
   | (with_reducible refine LeO.bind ?_ (fun _ => ?_))
   | exact ih0 _ _ _ _
   | exact impl_NameOk.mono _ _
   | exact LeO.none _
   | refine LeO.ite ?_ ?_
   | refine LeO.bind ?_ (fun _ => ?_)
set_option maxHeartbeats 8000000 in
set_option maxRecDepth 100000 in
theorem impl_tagsOk.calls (k : Nat) (a0 : ByteArray) (r : Bool) (w : World) (hG : StopsIn w) (h : impl_tagsOk.f k a0 = some r) :
  Calls Tryd.prog 62 #[.string a0] w fun e w' => e = .returned (.bool r) ∧ Below w.heap.size w w' := by
 have HG_ := Aside0.mk hG
 clear hG
 have HB := Aside0.mk (Below.refl w.heap.size w)
 have H : ((strings_Split.f a0 (⟨#[44]⟩ : ByteArray)).bind fun t136 => (impl_tagsOk.l0 k t136 t136 (t136.length : Int) 0)) = some r := h
 clear h
 replace H := Option.bind_eq_some_iff.mp H
 obtain ⟨t136, A20, H⟩ := H
 replace H : (impl_tagsOk.l0 k t136 t136 (t136.length : Int) 0) = some r := H
 have A2 := Aside0.mk A20
 clear A20
 have H' := Aside0.mk H
 clear H
 go_enter Tryd.func62, Tryd.ntmps62
 go_wp2_with (first | ((with_reducible refine gate_callee (f := 44) rfl ?_); refine goesL_ (some 7) rfl rfl Tryd.func44 u7_ rfl #[.string a0, .string (⟨#[44]⟩ : ByteArray)] rfl u1_ ?_; (with_reducible refine (strings_Split.calls a0 (⟨#[44]⟩ : ByteArray) t136 _ ?side1 A2.out).mono ?_); (case side1 => exact StopsIn.below HG_.out u0_); rintro e w3 ⟨v137, rfl, ho0, hb⟩; refine ⟨_, rfl, ?_⟩; have n0_ := Aside0.mk (Kd.R_lower ho0 (below_size u0_)); have n1_ := Aside0.mk (below_step u0_ hb); clear HB; have HO138 := n0_; have HB := n1_; clear n0_ n1_; (try clear hb); (try clear hb2); (try clear hk); (try clear hi); (try clear ho0); obtain ⟨Ao4, co4, eo4⟩ := Kd.R_slice HO138.out; subst eo4))
 go_loopg [10] k (fun kq v10 w' => ∃ (x10_1 : Int), v10 = .int .i64 x10_1 ∧ Aside0 (impl_tagsOk.l0 kq t136 t136 (t136.length : Int) x10_1 = some r) ∧ Aside0 (kq ≤ k) ∧ Aside0 (Kd.R Kd.string 9 w' w.heap.size (fun _ => True) (.slice Ao4 t136.length co4) t136) ∧ Aside0 (Kd.R Kd.string 9 w' w.heap.size (fun _ => True) (.slice Ao4 t136.length co4) t136) ∧ Aside0 (Below w.heap.size w w'))
 case atStart => exact ⟨(0), u16_, H', ⟨Nat.le_refl _⟩, ⟨by (with_reducible repeat (first | apply Kd.R_alloc | apply Kd.R_drewN | apply Kd.R_drew)); exact HO138.out⟩, ⟨by (with_reducible repeat (first | apply Kd.R_alloc | apply Kd.R_drewN | apply Kd.R_drew)); exact HO138.out⟩, ⟨u0_⟩⟩
 case round =>
  clear H'
  try clear p2
  try clear c4
  obtain ⟨x10_1, rfl, HA, HK1, HO_3, HO_8, HB⟩ := hrel
  cases gk with
  | zero => exact absurd HA.out (by simp [impl_tagsOk.l0])
  | succ k1 =>
   have H := HA.out
   clear HA
   simp only [impl_tagsOk.l0] at H
   by_cases c5 : x10_1 < (t136.length : Int)
   ·rw [if_pos c5] at H
    have c5b0 : decide (x10_1 < (t136.length : Int)) = true := decide_eq_true c5
    clear c5
    by_cases c6 : 0 ≤ x10_1
    ·rw [if_pos c6] at H
     have c6b0 : decide (0 ≤ x10_1) = true := decide_eq_true c6
     clear c6
     by_cases c7 : x10_1 < (t136.length : Int)
     ·rw [if_pos c7] at H
      have c7b0 : decide (x10_1 < (t136.length : Int)) = true := decide_eq_true c7
      clear c7
      replace H := Option.bind_eq_some_iff.mp H
      obtain ⟨t140, A80, H⟩ := H
      replace H : (if t140 = true then (impl_tagsOk.l0 k1 t136 t136 (t136.length : Int) (wrap64 (x10_1 + 1))) else (some false)) = some r := H
      have A8 := Aside0.mk A80
      clear A80
      by_cases c9 : t140 = true
      ·subst c9
       have H1 : (impl_tagsOk.l0 k1 t136 t136 (t136.length : Int) (wrap64 (x10_1 + 1))) = some r := by rw [if_pos rfl] at H; exact H
       clear H
       have H := H1
       clear H1
       have H' := Aside0.mk H
       clear H
       have p139 : 0 ≤ (x10_1 : Int) := of_decide_eq_true u2_
       have q139 : x10_1 < (t136.length : Int) := of_decide_eq_true u2_
       obtain ⟨ad139, e139, hx139_0⟩ := Kd.at_string (Kd.R_reads' HO_8.out).2.2 x10_1 p139 q139
       cases e139
       replace p139 := eq_true p139
       replace q139 := eq_true q139
       go_wp2_with (first | ((with_reducible refine gate_callee (f := 66) rfl ?_); refine goesL_ (some 15) rfl rfl Tryd.func66 u7_ rfl #[.string (rdOf ByteArray.empty t136 x10_1)] rfl u1_ ?_; (with_reducible refine (impl_NameOk.calls k1 (rdOf ByteArray.empty t136 x10_1) true _ A8.out).mono ?_); rintro e w' ⟨rfl, ⟨nd, rfl⟩⟩; refine ⟨_, rfl, ?_⟩))
       go_roundg k1
       case measure => have := HK1.out; omega
       case rel => exact ⟨(wrap64 (x10_1 + 1)), u16_, H', ⟨u65_⟩, ⟨u42_⟩, ⟨by (with_reducible repeat (first | apply Kd.R_alloc | apply Kd.R_drewN | apply Kd.R_drew)); exact HO_8.out⟩, ⟨u0_⟩⟩
      ·replace c9 := Bool.eq_false_iff.mpr c9
       subst c9
       have H1 : (some false) = some r := by rw [if_neg (show ¬ (false = true) by decide)] at H; exact H
       clear H
       have H := H1
       clear H1
       obtain rfl := Option.some.inj H
       have p139 : 0 ≤ (x10_1 : Int) := of_decide_eq_true u2_
       have q139 : x10_1 < (t136.length : Int) := of_decide_eq_true u2_
       obtain ⟨ad139, e139, hx139_0⟩ := Kd.at_string (Kd.R_reads' HO_8.out).2.2 x10_1 p139 q139
       cases e139
       replace p139 := eq_true p139
       replace q139 := eq_true q139
       go_wp2_with (first | ((with_reducible refine gate_callee (f := 66) rfl ?_); refine goesL_ (some 15) rfl rfl Tryd.func66 u7_ rfl #[.string (rdOf ByteArray.empty t136 x10_1)] rfl u1_ ?_; (with_reducible refine (impl_NameOk.calls k1 (rdOf ByteArray.empty t136 x10_1) false _ A8.out).mono ?_); rintro e w' ⟨rfl, ⟨nd, rfl⟩⟩; refine ⟨_, rfl, ?_⟩))
       go_ret
       exact ⟨u3_, u0_⟩
     ·rw [if_neg c7] at H
      exact absurd H u75_
    ·rw [if_neg c6] at H
     exact absurd H u75_
   ·rw [if_neg c5] at H
    have c5b0 : decide (x10_1 < (t136.length : Int)) = false := decide_eq_false c5
    clear c5
    obtain rfl := Option.some.inj H
    go_wp2
    go_ret
    exact ⟨u3_, u0_⟩

/-! ### impl_DocOk: function 26 -/
theorem impl_DocOk.fld75_1 (x0 : ByteArray) (x1 : Int) (x2 : Int) (w : World) : (Instr.field 75 (Value.agg #[Value.string x0, Value.int .i64 x1, Value.int .i64 x2]) 1).run Tryd.prog w = .ok (Value.int .i64 x1) w := by kernel_rfl
attribute [local go_sem] impl_DocOk.fld75_1
mutual
def impl_DocOk.j0 : Nat → List (S75) → Bool → ByteArray → List (S46) → Option (Bool)
 | 0, _, _, _, _ => none
 | k + 1, x0, x16, x142000, x142001 => if x16 = true then (some false) else (impl_DocOk.l0 k x0 x142001 (x142001.length : Int) 0)
def impl_DocOk.l0 : Nat → List (S75) → List (S46) → Int → Int → Option (Bool)
 | 0, _, _, _, _ => none
 | k + 1, x0, x18, x19, x20 => if x20 < x19 then (if 0 ≤ x20 then (if x20 < (x18.length : Int) then ((impl_fieldOf.f k x0 ((rd_T46 x18 x20).f0)).bind fun bt146 => (if bt146.2.1 = 1 then (impl_DocOk.l0 k x0 x18 x19 (wrap64 (x20 + 1))) else (if bt146.2.1 = 2 then ((impl_number.f ((rd_T46 x18 x20).f1)).bind fun bt149 => (if bt149.2 = true then (impl_DocOk.l0 k x0 x18 x19 (wrap64 (x20 + 1))) else (some false))) else (if bt146.2.1 = 3 then ((impl_tagsOk.f k ((rd_T46 x18 x20).f1)).bind fun t151 => (if t151 = true then (impl_DocOk.l0 k x0 x18 x19 (wrap64 (x20 + 1))) else (some false))) else (some false))))) else (none)) else (none)) else (some true)
end
def impl_DocOk.f (k : Nat) (l0 : List (S75)) (a1_0 : ByteArray) (l1_1 : List (S46)) : Option (Bool) := (impl_FieldsOk.f k l0).bind fun t142 => (if t142 = true then ((impl_wellFormed.f k a1_0 l1_1).bind fun t143 => (impl_DocOk.j0 k l0 (!t143) a1_0 l1_1)) else (impl_DocOk.j0 k l0 true a1_0 l1_1))
theorem impl_DocOk.mono_l : ∀ k, (∀ y0 y1 y2 y3, LeO (impl_DocOk.j0 k y0 y1 y2 y3) (impl_DocOk.j0 (k + 1) y0 y1 y2 y3)) ∧ (∀ y0 y1 y2 y3, LeO (impl_DocOk.l0 k y0 y1 y2 y3) (impl_DocOk.l0 (k + 1) y0 y1 y2 y3))
 | 0 => ⟨fun _ _ _ _ r h => by simp [impl_DocOk.j0] at h, fun _ _ _ _ r h => by simp [impl_DocOk.l0] at h⟩
 | k + 1 => by
  obtain ⟨ih0, ih1⟩ := impl_DocOk.mono_l k
  refine ⟨?_, ?_⟩
  ·intro y0 y1 y2 y3
   unfold impl_DocOk.j0
   repeat' first
   | (with_reducible exact ih0 _ _ _ _)
   | (with_reducible exact ih1 _ _ _ _)
   | (with_reducible exact impl_FieldsOk.mono _ _)
   | (with_reducible exact impl_fieldOf.mono _ _ _)
   | (with_reducible exact impl_tagsOk.mono _ _)
   | (with_reducible exact impl_wellFormed.mono _ _ _)
   | (with_reducible exact LeO.refl _)
   | (with_reducible exact LeO.none _)
   | (with_reducible refine LeO.ite ?_ ?_)
   | (with_reducible refine LeO.bind ?_ (fun _ => ?_))
   | exact ih0 _ _ _ _
   | exact ih1 _ _ _ _
   | exact impl_FieldsOk.mono _ _
   | exact impl_fieldOf.mono _ _ _
   | exact impl_tagsOk.mono _ _
   | exact impl_wellFormed.mono _ _ _
   | exact LeO.none _
   | refine LeO.ite ?_ ?_
   | refine LeO.bind ?_ (fun _ => ?_)
  ·intro y0 y1 y2 y3
   unfold impl_DocOk.l0
   repeat' first
   | (with_reducible exact ih0 _ _ _ _)
   | (with_reducible exact ih1 _ _ _ _)
   | (with_reducible exact impl_FieldsOk.mono _ _)
   | (with_reducible exact impl_fieldOf.mono _ _ _)
   | (with_reducible exact impl_tagsOk.mono _ _)
   | (with_reducible exact impl_wellFormed.mono _ _ _)
   | (with_reducible exact LeO.refl _)
   | (with_reducible exact LeO.none _)
   | (with_reducible refine LeO.ite ?_ ?_)
   | (with_reducible refine LeO.bind ?_ (fun _ => ?_))
   | exact ih0 _ _ _ _
   | exact ih1 _ _ _ _
   | exact impl_FieldsOk.mono _ _
   | exact impl_fieldOf.mono _ _ _
   | exact impl_tagsOk.mono _ _
   | exact impl_wellFormed.mono _ _ _
   | exact LeO.none _
   | refine LeO.ite ?_ ?_
   | refine LeO.bind ?_ (fun _ => ?_)
theorem impl_DocOk.mono : ∀ a0 a1 a2 k, LeO (impl_DocOk.f k a0 a1 a2) (impl_DocOk.f (k + 1) a0 a1 a2) := by
 intro a0 a1 a2 k
 obtain ⟨ih0, ih1⟩ := impl_DocOk.mono_l k
 unfold impl_DocOk.f
 repeat' first
   | (with_reducible exact ih0 _ _ _ _)
   | (with_reducible exact ih1 _ _ _ _)
   | (with_reducible exact impl_FieldsOk.mono _ _)
   | (with_reducible exact impl_fieldOf.mono _ _ _)
   | (with_reducible exact impl_tagsOk.mono _ _)
   | (with_reducible exact impl_wellFormed.mono _ _ _)
   | (with_reducible exact LeO.refl _)
   | (with_reducible exact LeO.none _)
   | (with_reducible refine LeO.ite ?_ ?_)
   | (with_reducible refine LeO.bind ?_ (fun _ => ?_))
   | exact ih0 _ _ _ _
   | exact ih1 _ _ _ _
   | exact impl_FieldsOk.mono _ _
   | exact impl_fieldOf.mono _ _ _
   | exact impl_tagsOk.mono _ _
   | exact impl_wellFormed.mono _ _ _
   | exact LeO.none _
   | refine LeO.ite ?_ ?_
   | refine LeO.bind ?_ (fun _ => ?_)
set_option maxHeartbeats 8000000 in
set_option maxRecDepth 100000 in
theorem impl_DocOk.calls (k : Nat) (A0 : Option Addr) (c0 : Nat) (l0 : List (S75)) (a1_0 : ByteArray) (A1_1 : Option Addr) (c1_1 : Nat) (l1_1 : List (S46)) (r : Bool) (w : World) (hG : StopsIn w) (hr0 : Kd.C k75 w A0 l0.length l0) (hc0 : l0.length ≤ c0) (hr1_1 : Kd.C k46 w A1_1 l1_1.length l1_1) (hc1_1 : l1_1.length ≤ c1_1) (h : impl_DocOk.f k l0 a1_0 l1_1 = some r) :
  Calls Tryd.prog 26 #[.slice A0 l0.length c0, .agg #[.string a1_0, .slice A1_1 l1_1.length c1_1]] w fun e w' => e = .returned (.bool r) ∧ Below w.heap.size w w' := by
 have hu41 := Tryd.underlying41
 have hu46 := Tryd.underlying46
 have HG_ := Aside0.mk hG
 clear hG
 have HR0 := Aside0.mk hr0
 have HC0 := Aside0.mk hc0
 clear hr0 hc0
 have HR1_1 := Aside0.mk hr1_1
 have HC1_1 := Aside0.mk hc1_1
 clear hr1_1 hc1_1
 have HB := Aside0.mk (Below.refl w.heap.size w)
 have H : ((impl_FieldsOk.f k l0).bind fun t142 => (if t142 = true then ((impl_wellFormed.f k a1_0 l1_1).bind fun t143 => (impl_DocOk.j0 k l0 (!t143) a1_0 l1_1)) else (impl_DocOk.j0 k l0 true a1_0 l1_1))) = some r := h
 clear h
 have HC3 := Aside0.mk H
 clear H
 go_enter Tryd.func26, Tryd.ntmps26
 go_upto_region 1 with (first | ((with_reducible refine gate_dst (N := 3) rfl ?_); refine box_event ?hg (N := 3) ?hd (cs := #[.string a1_0, .slice A1_1 l1_1.length c1_1]) (t := 41) ?hr ?_; (case hd => rfl); (case hg => rfl); (case hr => first | (go_simp; done) | (go_simp; rfl)); intro gb141 hg w4 hbox hb; have n0_ := Aside0.mk (below_step u0_ hb); have n1_ := Aside0.mk (hbox); have n2_ := Aside0.mk ((by rw [hg]; exact (below_size u0_) : w.heap.size ≤ gb141)); have n3_ := n2_; clear HB; have HB := n0_; have BK141 := n1_; have GW141 := n2_; have GE141 := n3_; clear n0_ n1_ n2_ n3_; clear hb hbox hg))
 (try simp only [Act.put, List.setIfInBounds_toArray, List.set_cons_zero, List.set_cons_succ])
 go_cut [16] (fun v16 wc => ∃ (kq : Nat) (x16_2 : Bool), v16 = .bool x16_2 ∧ Aside0 (impl_DocOk.j0 kq l0 x16_2 a1_0 l1_1 = some r) ∧ Aside0 (kq ≤ k) ∧ Aside0 (wc.heap[gb141]? = some (.cells #[.string a1_0, (.slice A1_1 l1_1.length c1_1)] 41 (0, 0))) ∧ Aside0 (Below w.heap.size w wc))
 case first =>
  have H := HC3.out
  clear HC3
  replace H := Option.bind_eq_some_iff.mp H
  obtain ⟨t142, A50, H⟩ := H
  replace H : (if t142 = true then ((impl_wellFormed.f k a1_0 l1_1).bind fun t143 => (impl_DocOk.j0 k l0 (!t143) a1_0 l1_1)) else (impl_DocOk.j0 k l0 true a1_0 l1_1)) = some r := H
  have A5 := Aside0.mk A50
  clear A50
  by_cases c6 : t142 = true
  ·subst c6
   have H1 : ((impl_wellFormed.f k a1_0 l1_1).bind fun t143 => (impl_DocOk.j0 k l0 (!t143) a1_0 l1_1)) = some r := by rw [if_pos rfl] at H; exact H
   clear H
   have H := H1
   clear H1
   replace H := Option.bind_eq_some_iff.mp H
   obtain ⟨t143, A70, H⟩ := H
   replace H : (impl_DocOk.j0 k l0 (!t143) a1_0 l1_1) = some r := H
   have A7 := Aside0.mk A70
   clear A70
   have H' := Aside0.mk H
   clear H
   go_wp2_with (first | ((with_reducible refine gate_callee (f := 28) rfl ?_); refine goesL_ (some 10) rfl rfl Tryd.func28 u7_ rfl #[.slice A0 l0.length c0] rfl u1_ ?_; (with_reducible refine (impl_FieldsOk.calls k _ _ l0 true _ ?side1 ?side2 A5.out).mono ?_); (case side1 => repeat (first | exact (Kd.C_below HR0.out HB.out) | (with_reducible refine Kd.C_alloc ?_ _) | (with_reducible refine Kd.C_drewN ?_ _) | (with_reducible refine Kd.C_drew ?_))); (case side2 => exact HC0.out); rintro e w8 ⟨rfl, hb⟩; refine ⟨_, rfl, ?_⟩; have n0_ := Aside0.mk (blk_below (g := gb141) (o := .cells #[.string a1_0, .slice A1_1 l1_1.length c1_1] 41 (0, 0)) u15_ hb); have n1_ := Aside0.mk (below_step u19_ hb); clear BK141; clear HB; have BK141 := n0_; have HB := n1_; clear n0_ n1_; (try clear hb); (try clear hb2); (try clear hk); (try clear hi); have hcz9_0 : w8.cell? ⟨gb141, 0, none⟩ = some (.string a1_0) := (blk_cell BK141.out 0).trans rfl; have hcz9_1 : w8.cell? ⟨gb141, 1, none⟩ = some (.slice A1_1 l1_1.length c1_1) := (blk_cell BK141.out 1).trans rfl; have hfz9_0 := blk_frozen BK141.out 0; have hfz9_1 := blk_frozen BK141.out 1) | (go_at_call 60; (with_reducible refine (impl_wellFormed.calls k a1_0 _ _ l1_1 t143 _ ?side1 ?side2 A7.out).mono ?_); (case side1 => repeat (first | exact (Kd.C_below HR1_1.out HB.out) | (with_reducible refine Kd.C_alloc ?_ _) | (with_reducible refine Kd.C_drewN ?_ _) | (with_reducible refine Kd.C_drew ?_))); (case side2 => exact HC1_1.out); rintro e w10 ⟨rfl, hb⟩; have n0_ := Aside0.mk (blk_below (g := gb141) (o := .cells #[.string a1_0, .slice A1_1 l1_1.length c1_1] 41 (0, 0)) u15_ hb); have n1_ := Aside0.mk (below_step u19_ hb); clear BK141; clear HB; have BK141 := n0_; have HB := n1_; clear n0_ n1_; (try clear hb); (try clear hb2); (try clear hk); (try clear hi)))
   go_meet
   case rel => exact ⟨_, (!t143), u16_, H', ⟨by first | omega | exact Nat.le_refl _⟩, ⟨u15_⟩, ⟨u19_⟩⟩
  ·replace c6 := Bool.eq_false_iff.mpr c6
   subst c6
   have H1 : (impl_DocOk.j0 k l0 true a1_0 l1_1) = some r := by rw [if_neg (show ¬ (false = true) by decide)] at H; exact H
   clear H
   have H := H1
   clear H1
   have H' := Aside0.mk H
   clear H
   go_wp2_with (first | ((with_reducible refine gate_callee (f := 28) rfl ?_); refine goesL_ (some 10) rfl rfl Tryd.func28 u7_ rfl #[.slice A0 l0.length c0] rfl u1_ ?_; (with_reducible refine (impl_FieldsOk.calls k _ _ l0 false _ ?side1 ?side2 A5.out).mono ?_); (case side1 => repeat (first | exact (Kd.C_below HR0.out HB.out) | (with_reducible refine Kd.C_alloc ?_ _) | (with_reducible refine Kd.C_drewN ?_ _) | (with_reducible refine Kd.C_drew ?_))); (case side2 => exact HC0.out); rintro e w11 ⟨rfl, hb⟩; refine ⟨_, rfl, ?_⟩; have n0_ := Aside0.mk (blk_below (g := gb141) (o := .cells #[.string a1_0, .slice A1_1 l1_1.length c1_1] 41 (0, 0)) u15_ hb); have n1_ := Aside0.mk (below_step u19_ hb); clear BK141; clear HB; have BK141 := n0_; have HB := n1_; clear n0_ n1_; (try clear hb); (try clear hb2); (try clear hk); (try clear hi)))
   go_meet
   case rel => exact ⟨_, (true), u16_, H', ⟨by first | omega | exact Nat.le_refl _⟩, ⟨u15_⟩, ⟨u19_⟩⟩
 case rest =>
  clear HC3
  try clear c1
  try clear c2
  try clear p2
  try clear c6
  try clear hcz9_0
  try clear hcz9_1
  try clear hfz9_0
  try clear hfz9_1
  obtain ⟨kq, x16_2, rfl, HA, HJ2, BK141, HB⟩ := hcut
  cases kq with
  | zero => exact absurd HA.out (by simp [impl_DocOk.j0])
  | succ kj2 =>
   have H := HA.out
   clear HA
   simp only [impl_DocOk.j0] at H
   by_cases c12 : x16_2 = true
   ·subst c12
    have H1 : (some false) = some r := by rw [if_pos rfl] at H; exact H
    clear H
    have H := H1
    clear H1
    obtain rfl := Option.some.inj H
    go_wp2
    go_ret
    exact ⟨u3_, u19_⟩
   ·replace c12 := Bool.eq_false_iff.mpr c12
    subst c12
    have H1 : (impl_DocOk.l0 kj2 l0 l1_1 (l1_1.length : Int) 0) = some r := by rw [if_neg (show ¬ (false = true) by decide)] at H; exact H
    clear H
    have H := H1
    clear H1
    have H' := Aside0.mk H
    clear H
    have hcz13_0 : wc.cell? ⟨gb141, 0, none⟩ = some (.string a1_0) := (blk_cell BK141.out 0).trans rfl
    have hcz13_1 : wc.cell? ⟨gb141, 1, none⟩ = some (.slice A1_1 l1_1.length c1_1) := (blk_cell BK141.out 1).trans rfl
    have hfz13_0 := blk_frozen BK141.out 0
    have hfz13_1 := blk_frozen BK141.out 1
    go_wp2
    go_loopg [20] kj2 (fun kq v20 w' => ∃ (x20_2 : Int), v20 = .int .i64 x20_2 ∧ Aside0 (impl_DocOk.l0 kq l0 l1_1 (l1_1.length : Int) x20_2 = some r) ∧ Aside0 (kq ≤ kj2) ∧ Aside0 (w'.heap[gb141]? = some (.cells #[.string a1_0, (.slice A1_1 l1_1.length c1_1)] 41 (0, 0))) ∧ Aside0 (Below w.heap.size w w'))
    case atStart => exact ⟨(0), u16_, H', ⟨Nat.le_refl _⟩, ⟨u15_⟩, ⟨u19_⟩⟩
    case round =>
     clear H'
     try clear c1
     try clear c2
     try clear p2
     try clear c6
     try clear c12
     try clear hcz13_0
     try clear hcz13_1
     try clear hcz9_0
     try clear hcz9_1
     try clear hfz13_0
     try clear hfz13_1
     try clear hfz9_0
     try clear hfz9_1
     try clear p2
     obtain ⟨x20_2, rfl, HA, HK2, BK141, HB⟩ := hrel
     cases gk with
     | zero => exact absurd HA.out (by simp [impl_DocOk.l0])
     | succ k2 =>
      have H := HA.out
      clear HA
      simp only [impl_DocOk.l0] at H
      by_cases c14 : x20_2 < (l1_1.length : Int)
      ·rw [if_pos c14] at H
       have c14b0 : decide (x20_2 < (l1_1.length : Int)) = true := decide_eq_true c14
       clear c14
       by_cases c15 : 0 ≤ x20_2
       ·rw [if_pos c15] at H
        have c15b0 : decide (0 ≤ x20_2) = true := decide_eq_true c15
        clear c15
        by_cases c16 : x20_2 < (l1_1.length : Int)
        ·rw [if_pos c16] at H
         have c16b0 : decide (x20_2 < (l1_1.length : Int)) = true := decide_eq_true c16
         clear c16
         replace H := Option.bind_eq_some_iff.mp H
         obtain ⟨⟨t146, t147, t148⟩, A170, H⟩ := H
         replace H : (if t147 = 1 then (impl_DocOk.l0 k2 l0 l1_1 (l1_1.length : Int) (wrap64 (x20_2 + 1))) else (if t147 = 2 then ((impl_number.f ((rd_T46 l1_1 x20_2).f1)).bind fun bt149 => (if bt149.2 = true then (impl_DocOk.l0 k2 l0 l1_1 (l1_1.length : Int) (wrap64 (x20_2 + 1))) else (some false))) else (if t147 = 3 then ((impl_tagsOk.f k2 ((rd_T46 l1_1 x20_2).f1)).bind fun t151 => (if t151 = true then (impl_DocOk.l0 k2 l0 l1_1 (l1_1.length : Int) (wrap64 (x20_2 + 1))) else (some false))) else (some false)))) = some r := H
         have A17 := Aside0.mk A170
         clear A170
         by_cases c18 : t147 = 1
         ·rw [if_pos c18] at H
          have c18b0 : (t147 == 1) = true := beq_iff_eq.mpr c18
          have c18b1 : (t147 != 1) = false := bne_eq_false_iff_eq.mpr c18
          clear c18
          have H' := Aside0.mk H
          clear H
          have p144 : 0 ≤ (x20_2 : Int) := of_decide_eq_true u2_
          have q144 : x20_2 < (l1_1.length : Int) := of_decide_eq_true u2_
          obtain ⟨ad144, e144, hx144_0, hx144_1⟩ := at_T46 HR1_1.out x20_2 p144 q144
          cases e144
          replace hx144_0 := (HB.out.cell (World.block_lt_of_cell? w _ hx144_0)).trans hx144_0
          replace hx144_1 := (HB.out.cell (World.block_lt_of_cell? w _ hx144_1)).trans hx144_1
          replace p144 := eq_true p144
          replace q144 := eq_true q144
          go_wp2_with (first | ((with_reducible refine gate_dst (N := 6) rfl ?_); refine box_event ?hg (N := 6) ?hd (cs := #[.string (⟨#[]⟩ : ByteArray), .string (⟨#[]⟩ : ByteArray)]) (t := 46) ?hr ?_; (case hd => rfl); (case hg => rfl); (case hr => first | (go_simp; done) | (go_simp; rfl)); intro gb145 hg w19 hbox hb; have n0_ := Aside0.mk (blk_below (g := gb141) (o := .cells #[.string a1_0, .slice (some ad144) l1_1.length c1_1] 41 (0, 0)) u15_ hb); have n1_ := Aside0.mk (below_step u19_ hb); have n2_ := Aside0.mk (hbox); have n3_ := Aside0.mk ((by rw [hg]; exact (below_size u19_) : w.heap.size ≤ gb145)); have n4_ := n3_; have n5_ := Aside0.mk ((by rw [hg]; exact Nat.ne_of_lt (blk_lt (g := gb141) (o := .cells #[.string a1_0, .slice (some ad144) l1_1.length c1_1] 41 (0, 0)) u15_) : gb141 ≠ gb145)); have n6_ := Aside0.mk ((by rw [hg]; exact Nat.ne_of_gt (blk_lt (g := gb141) (o := .cells #[.string a1_0, .slice (some ad144) l1_1.length c1_1] 41 (0, 0)) u15_) : gb145 ≠ gb141)); clear BK141; clear HB; have BK141 := n0_; have HB := n1_; have BK145 := n2_; have GW145 := n3_; have GE145 := n4_; have NB141_145 := n5_; have NB145_141 := n6_; clear n0_ n1_ n2_ n3_ n4_ n5_ n6_; clear hb hbox hg; have hnb20 := NB145_141.out; have hnc20 := NB141_145.out; have hcz21_0 : w19.cell? ⟨gb145, 0, none⟩ = some (.string (⟨#[]⟩ : ByteArray)) := (blk_cell BK145.out 0).trans rfl; have hcz21_1 : w19.cell? ⟨gb145, 1, none⟩ = some (.string (⟨#[]⟩ : ByteArray)) := (blk_cell BK145.out 1).trans rfl; have hfz21_0 := blk_frozen BK145.out 0; have hfz21_1 := blk_frozen BK145.out 1) | ((with_reducible refine gate_callee (f := 61) rfl ?_); refine goesL_ (some 27) rfl rfl Tryd.func61 u7_ rfl #[.slice A0 l0.length c0, .string ((rd_T46 l1_1 x20_2).f0)] rfl u1_ ?_; (with_reducible refine (impl_fieldOf.calls k2 _ _ l0 ((rd_T46 l1_1 x20_2).f0) t146 t147 t148 _ ?side1 ?side2 A17.out).mono ?_); (case side1 => exact Kd.C_below HR0.out u10_); (case side2 => exact HC0.out); rintro e w22 ⟨rfl, hb⟩; refine ⟨_, rfl, ?_⟩; have n0_ := Aside0.mk (blk_below (g := gb141) (o := .cells #[.string a1_0, .slice (some ad144) l1_1.length c1_1] 41 (0, 0)) u26_ hb); have n1_ := Aside0.mk (blk_below (g := gb145) (o := .cells #[.string ((rd_T46 l1_1 x20_2).f0), .string ((rd_T46 l1_1 x20_2).f1)] 46 (0, 0)) u22_ hb); have n2_ := Aside0.mk (below_step u10_ hb); clear BK141; clear BK145; clear HB; have BK141 := n0_; have BK145 := n1_; have HB := n2_; clear n0_ n1_ n2_; (try clear hb); (try clear hb2); (try clear hk); (try clear hi)))
          go_roundg k2
          case measure => have := HJ2.out; have := HK2.out; omega
          case rel => exact ⟨(wrap64 (x20_2 + 1)), u16_, H', ⟨by have := HJ2.out; have := HK2.out; omega⟩, ⟨u15_⟩, ⟨u10_⟩⟩
         ·rw [if_neg c18] at H
          have c18b0 : (t147 == 1) = false := beq_eq_false_iff_ne.mpr c18
          have c18b1 : (t147 != 1) = true := bne_iff_ne.mpr c18
          by_cases c23 : t147 = 2
          ·rw [if_pos c23] at H
           have c23b0 : (t147 == 2) = true := beq_iff_eq.mpr c23
           have c23b1 : (t147 != 2) = false := bne_eq_false_iff_eq.mpr c23
           clear c23
           replace H := Option.bind_eq_some_iff.mp H
           obtain ⟨⟨t149, t150⟩, A240, H⟩ := H
           replace H : (if t150 = true then (impl_DocOk.l0 k2 l0 l1_1 (l1_1.length : Int) (wrap64 (x20_2 + 1))) else (some false)) = some r := H
           have A24 := Aside0.mk A240
           clear A240
           by_cases c25 : t150 = true
           ·subst c25
            have H1 : (impl_DocOk.l0 k2 l0 l1_1 (l1_1.length : Int) (wrap64 (x20_2 + 1))) = some r := by rw [if_pos rfl] at H; exact H
            clear H
            have H := H1
            clear H1
            have H' := Aside0.mk H
            clear H
            have p144 : 0 ≤ (x20_2 : Int) := of_decide_eq_true u2_
            have q144 : x20_2 < (l1_1.length : Int) := of_decide_eq_true u2_
            obtain ⟨ad144, e144, hx144_0, hx144_1⟩ := at_T46 HR1_1.out x20_2 p144 q144
            cases e144
            replace hx144_0 := (HB.out.cell (World.block_lt_of_cell? w _ hx144_0)).trans hx144_0
            replace hx144_1 := (HB.out.cell (World.block_lt_of_cell? w _ hx144_1)).trans hx144_1
            replace p144 := eq_true p144
            replace q144 := eq_true q144
            go_wp2_with (first | ((with_reducible refine gate_dst (N := 6) rfl ?_); refine box_event ?hg (N := 6) ?hd (cs := #[.string (⟨#[]⟩ : ByteArray), .string (⟨#[]⟩ : ByteArray)]) (t := 46) ?hr ?_; (case hd => rfl); (case hg => rfl); (case hr => first | (go_simp; done) | (go_simp; rfl)); intro gb145 hg w26 hbox hb; have n0_ := Aside0.mk (blk_below (g := gb141) (o := .cells #[.string a1_0, .slice (some ad144) l1_1.length c1_1] 41 (0, 0)) u15_ hb); have n1_ := Aside0.mk (below_step u19_ hb); have n2_ := Aside0.mk (hbox); have n3_ := Aside0.mk ((by rw [hg]; exact (below_size u19_) : w.heap.size ≤ gb145)); have n4_ := n3_; have n5_ := Aside0.mk ((by rw [hg]; exact Nat.ne_of_lt (blk_lt (g := gb141) (o := .cells #[.string a1_0, .slice (some ad144) l1_1.length c1_1] 41 (0, 0)) u15_) : gb141 ≠ gb145)); have n6_ := Aside0.mk ((by rw [hg]; exact Nat.ne_of_gt (blk_lt (g := gb141) (o := .cells #[.string a1_0, .slice (some ad144) l1_1.length c1_1] 41 (0, 0)) u15_) : gb145 ≠ gb141)); clear BK141; clear HB; have BK141 := n0_; have HB := n1_; have BK145 := n2_; have GW145 := n3_; have GE145 := n4_; have NB141_145 := n5_; have NB145_141 := n6_; clear n0_ n1_ n2_ n3_ n4_ n5_ n6_; clear hb hbox hg; have hnb27 := NB145_141.out; have hnc27 := NB141_145.out; have hcz28_0 : w26.cell? ⟨gb145, 0, none⟩ = some (.string (⟨#[]⟩ : ByteArray)) := (blk_cell BK145.out 0).trans rfl; have hcz28_1 : w26.cell? ⟨gb145, 1, none⟩ = some (.string (⟨#[]⟩ : ByteArray)) := (blk_cell BK145.out 1).trans rfl; have hfz28_0 := blk_frozen BK145.out 0; have hfz28_1 := blk_frozen BK145.out 1) | ((with_reducible refine gate_callee (f := 61) rfl ?_); refine goesL_ (some 27) rfl rfl Tryd.func61 u7_ rfl #[.slice A0 l0.length c0, .string ((rd_T46 l1_1 x20_2).f0)] rfl u1_ ?_; (with_reducible refine (impl_fieldOf.calls k2 _ _ l0 ((rd_T46 l1_1 x20_2).f0) t146 t147 t148 _ ?side1 ?side2 A17.out).mono ?_); (case side1 => exact Kd.C_below HR0.out u10_); (case side2 => exact HC0.out); rintro e w29 ⟨rfl, hb⟩; refine ⟨_, rfl, ?_⟩; have n0_ := Aside0.mk (blk_below (g := gb141) (o := .cells #[.string a1_0, .slice (some ad144) l1_1.length c1_1] 41 (0, 0)) u26_ hb); have n1_ := Aside0.mk (blk_below (g := gb145) (o := .cells #[.string ((rd_T46 l1_1 x20_2).f0), .string ((rd_T46 l1_1 x20_2).f1)] 46 (0, 0)) u22_ hb); have n2_ := Aside0.mk (below_step u10_ hb); clear BK141; clear BK145; clear HB; have BK141 := n0_; have BK145 := n1_; have HB := n2_; clear n0_ n1_ n2_; (try clear hb); (try clear hb2); (try clear hk); (try clear hi); have hcz30_0 : w29.cell? ⟨gb145, 0, none⟩ = some (.string ((rd_T46 l1_1 x20_2).f0)) := (blk_cell BK145.out 0).trans rfl; have hcz30_1 : w29.cell? ⟨gb145, 1, none⟩ = some (.string ((rd_T46 l1_1 x20_2).f1)) := (blk_cell BK145.out 1).trans rfl; have hfz30_0 := blk_frozen BK145.out 0; have hfz30_1 := blk_frozen BK145.out 1) | ((with_reducible refine gate_callee (f := 45) rfl ?_); refine goesL_ (some 36) rfl rfl Tryd.func45 u7_ rfl #[.string ((rd_T46 l1_1 x20_2).f1)] rfl u1_ ?_; (with_reducible refine (impl_number.calls ((rd_T46 l1_1 x20_2).f1) t149 true _ ?side1 A24.out).mono ?_); (case side1 => exact StopsIn.below HG_.out u10_); rintro e w31 ⟨rfl, hb⟩; refine ⟨_, rfl, ?_⟩; have n0_ := Aside0.mk (blk_below (g := gb141) (o := .cells #[.string a1_0, .slice (some ad144) l1_1.length c1_1] 41 (0, 0)) u15_ hb); have n1_ := Aside0.mk (blk_below (g := gb145) (o := .cells #[.string ((rd_T46 l1_1 x20_2).f0), .string ((rd_T46 l1_1 x20_2).f1)] 46 (0, 0)) u74_ hb); have n2_ := Aside0.mk (below_step u10_ hb); clear BK141; clear BK145; clear HB; have BK141 := n0_; have BK145 := n1_; have HB := n2_; clear n0_ n1_ n2_; (try clear hb); (try clear hb2); (try clear hk); (try clear hi)))
            go_roundg k2
            case measure => have := HJ2.out; have := HK2.out; omega
            case rel => exact ⟨(wrap64 (x20_2 + 1)), u16_, H', ⟨by have := HJ2.out; have := HK2.out; omega⟩, ⟨u15_⟩, ⟨u10_⟩⟩
           ·replace c25 := Bool.eq_false_iff.mpr c25
            subst c25
            have H1 : (some false) = some r := by rw [if_neg (show ¬ (false = true) by decide)] at H; exact H
            clear H
            have H := H1
            clear H1
            obtain rfl := Option.some.inj H
            have p144 : 0 ≤ (x20_2 : Int) := of_decide_eq_true u2_
            have q144 : x20_2 < (l1_1.length : Int) := of_decide_eq_true u2_
            obtain ⟨ad144, e144, hx144_0, hx144_1⟩ := at_T46 HR1_1.out x20_2 p144 q144
            cases e144
            replace hx144_0 := (HB.out.cell (World.block_lt_of_cell? w _ hx144_0)).trans hx144_0
            replace hx144_1 := (HB.out.cell (World.block_lt_of_cell? w _ hx144_1)).trans hx144_1
            replace p144 := eq_true p144
            replace q144 := eq_true q144
            go_wp2_with (first | ((with_reducible refine gate_dst (N := 6) rfl ?_); refine box_event ?hg (N := 6) ?hd (cs := #[.string (⟨#[]⟩ : ByteArray), .string (⟨#[]⟩ : ByteArray)]) (t := 46) ?hr ?_; (case hd => rfl); (case hg => rfl); (case hr => first | (go_simp; done) | (go_simp; rfl)); intro gb145 hg w32 hbox hb; have n0_ := Aside0.mk (blk_below (g := gb141) (o := .cells #[.string a1_0, .slice (some ad144) l1_1.length c1_1] 41 (0, 0)) u15_ hb); have n1_ := Aside0.mk (below_step u19_ hb); have n2_ := Aside0.mk (hbox); have n3_ := Aside0.mk ((by rw [hg]; exact (below_size u19_) : w.heap.size ≤ gb145)); have n4_ := n3_; have n5_ := Aside0.mk ((by rw [hg]; exact Nat.ne_of_lt (blk_lt (g := gb141) (o := .cells #[.string a1_0, .slice (some ad144) l1_1.length c1_1] 41 (0, 0)) u15_) : gb141 ≠ gb145)); have n6_ := Aside0.mk ((by rw [hg]; exact Nat.ne_of_gt (blk_lt (g := gb141) (o := .cells #[.string a1_0, .slice (some ad144) l1_1.length c1_1] 41 (0, 0)) u15_) : gb145 ≠ gb141)); clear BK141; clear HB; have BK141 := n0_; have HB := n1_; have BK145 := n2_; have GW145 := n3_; have GE145 := n4_; have NB141_145 := n5_; have NB145_141 := n6_; clear n0_ n1_ n2_ n3_ n4_ n5_ n6_; clear hb hbox hg; have hnb33 := NB145_141.out; have hnc33 := NB141_145.out; have hcz34_0 : w32.cell? ⟨gb145, 0, none⟩ = some (.string (⟨#[]⟩ : ByteArray)) := (blk_cell BK145.out 0).trans rfl; have hcz34_1 : w32.cell? ⟨gb145, 1, none⟩ = some (.string (⟨#[]⟩ : ByteArray)) := (blk_cell BK145.out 1).trans rfl; have hfz34_0 := blk_frozen BK145.out 0; have hfz34_1 := blk_frozen BK145.out 1) | ((with_reducible refine gate_callee (f := 61) rfl ?_); refine goesL_ (some 27) rfl rfl Tryd.func61 u7_ rfl #[.slice A0 l0.length c0, .string ((rd_T46 l1_1 x20_2).f0)] rfl u1_ ?_; (with_reducible refine (impl_fieldOf.calls k2 _ _ l0 ((rd_T46 l1_1 x20_2).f0) t146 t147 t148 _ ?side1 ?side2 A17.out).mono ?_); (case side1 => exact Kd.C_below HR0.out u10_); (case side2 => exact HC0.out); rintro e w35 ⟨rfl, hb⟩; refine ⟨_, rfl, ?_⟩; have n0_ := Aside0.mk (blk_below (g := gb141) (o := .cells #[.string a1_0, .slice (some ad144) l1_1.length c1_1] 41 (0, 0)) u26_ hb); have n1_ := Aside0.mk (blk_below (g := gb145) (o := .cells #[.string ((rd_T46 l1_1 x20_2).f0), .string ((rd_T46 l1_1 x20_2).f1)] 46 (0, 0)) u22_ hb); have n2_ := Aside0.mk (below_step u10_ hb); clear BK141; clear BK145; clear HB; have BK141 := n0_; have BK145 := n1_; have HB := n2_; clear n0_ n1_ n2_; (try clear hb); (try clear hb2); (try clear hk); (try clear hi); have hcz36_0 : w35.cell? ⟨gb145, 0, none⟩ = some (.string ((rd_T46 l1_1 x20_2).f0)) := (blk_cell BK145.out 0).trans rfl; have hcz36_1 : w35.cell? ⟨gb145, 1, none⟩ = some (.string ((rd_T46 l1_1 x20_2).f1)) := (blk_cell BK145.out 1).trans rfl; have hfz36_0 := blk_frozen BK145.out 0; have hfz36_1 := blk_frozen BK145.out 1) | ((with_reducible refine gate_callee (f := 45) rfl ?_); refine goesL_ (some 36) rfl rfl Tryd.func45 u7_ rfl #[.string ((rd_T46 l1_1 x20_2).f1)] rfl u1_ ?_; (with_reducible refine (impl_number.calls ((rd_T46 l1_1 x20_2).f1) t149 false _ ?side1 A24.out).mono ?_); (case side1 => exact StopsIn.below HG_.out u10_); rintro e w37 ⟨rfl, hb⟩; refine ⟨_, rfl, ?_⟩; have n0_ := Aside0.mk (blk_below (g := gb141) (o := .cells #[.string a1_0, .slice (some ad144) l1_1.length c1_1] 41 (0, 0)) u15_ hb); have n1_ := Aside0.mk (blk_below (g := gb145) (o := .cells #[.string ((rd_T46 l1_1 x20_2).f0), .string ((rd_T46 l1_1 x20_2).f1)] 46 (0, 0)) u74_ hb); have n2_ := Aside0.mk (below_step u10_ hb); clear BK141; clear BK145; clear HB; have BK141 := n0_; have BK145 := n1_; have HB := n2_; clear n0_ n1_ n2_; (try clear hb); (try clear hb2); (try clear hk); (try clear hi)))
            go_ret
            exact ⟨u3_, u10_⟩
          ·rw [if_neg c23] at H
           have c23b0 : (t147 == 2) = false := beq_eq_false_iff_ne.mpr c23
           have c23b1 : (t147 != 2) = true := bne_iff_ne.mpr c23
           by_cases c38 : t147 = 3
           ·rw [if_pos c38] at H
            have c38b0 : (t147 == 3) = true := beq_iff_eq.mpr c38
            have c38b1 : (t147 != 3) = false := bne_eq_false_iff_eq.mpr c38
            clear c38
            replace H := Option.bind_eq_some_iff.mp H
            obtain ⟨t151, A390, H⟩ := H
            replace H : (if t151 = true then (impl_DocOk.l0 k2 l0 l1_1 (l1_1.length : Int) (wrap64 (x20_2 + 1))) else (some false)) = some r := H
            have A39 := Aside0.mk A390
            clear A390
            by_cases c40 : t151 = true
            ·subst c40
             have H1 : (impl_DocOk.l0 k2 l0 l1_1 (l1_1.length : Int) (wrap64 (x20_2 + 1))) = some r := by rw [if_pos rfl] at H; exact H
             clear H
             have H := H1
             clear H1
             have H' := Aside0.mk H
             clear H
             have p144 : 0 ≤ (x20_2 : Int) := of_decide_eq_true u2_
             have q144 : x20_2 < (l1_1.length : Int) := of_decide_eq_true u2_
             obtain ⟨ad144, e144, hx144_0, hx144_1⟩ := at_T46 HR1_1.out x20_2 p144 q144
             cases e144
             replace hx144_0 := (HB.out.cell (World.block_lt_of_cell? w _ hx144_0)).trans hx144_0
             replace hx144_1 := (HB.out.cell (World.block_lt_of_cell? w _ hx144_1)).trans hx144_1
             replace p144 := eq_true p144
             replace q144 := eq_true q144
             go_wp2_with (first | ((with_reducible refine gate_dst (N := 6) rfl ?_); refine box_event ?hg (N := 6) ?hd (cs := #[.string (⟨#[]⟩ : ByteArray), .string (⟨#[]⟩ : ByteArray)]) (t := 46) ?hr ?_; (case hd => rfl); (case hg => rfl); (case hr => first | (go_simp; done) | (go_simp; rfl)); intro gb145 hg w41 hbox hb; have n0_ := Aside0.mk (blk_below (g := gb141) (o := .cells #[.string a1_0, .slice (some ad144) l1_1.length c1_1] 41 (0, 0)) u15_ hb); have n1_ := Aside0.mk (below_step u19_ hb); have n2_ := Aside0.mk (hbox); have n3_ := Aside0.mk ((by rw [hg]; exact (below_size u19_) : w.heap.size ≤ gb145)); have n4_ := n3_; have n5_ := Aside0.mk ((by rw [hg]; exact Nat.ne_of_lt (blk_lt (g := gb141) (o := .cells #[.string a1_0, .slice (some ad144) l1_1.length c1_1] 41 (0, 0)) u15_) : gb141 ≠ gb145)); have n6_ := Aside0.mk ((by rw [hg]; exact Nat.ne_of_gt (blk_lt (g := gb141) (o := .cells #[.string a1_0, .slice (some ad144) l1_1.length c1_1] 41 (0, 0)) u15_) : gb145 ≠ gb141)); clear BK141; clear HB; have BK141 := n0_; have HB := n1_; have BK145 := n2_; have GW145 := n3_; have GE145 := n4_; have NB141_145 := n5_; have NB145_141 := n6_; clear n0_ n1_ n2_ n3_ n4_ n5_ n6_; clear hb hbox hg; have hnb42 := NB145_141.out; have hnc42 := NB141_145.out; have hcz43_0 : w41.cell? ⟨gb145, 0, none⟩ = some (.string (⟨#[]⟩ : ByteArray)) := (blk_cell BK145.out 0).trans rfl; have hcz43_1 : w41.cell? ⟨gb145, 1, none⟩ = some (.string (⟨#[]⟩ : ByteArray)) := (blk_cell BK145.out 1).trans rfl; have hfz43_0 := blk_frozen BK145.out 0; have hfz43_1 := blk_frozen BK145.out 1) | ((with_reducible refine gate_callee (f := 61) rfl ?_); refine goesL_ (some 27) rfl rfl Tryd.func61 u7_ rfl #[.slice A0 l0.length c0, .string ((rd_T46 l1_1 x20_2).f0)] rfl u1_ ?_; (with_reducible refine (impl_fieldOf.calls k2 _ _ l0 ((rd_T46 l1_1 x20_2).f0) t146 t147 t148 _ ?side1 ?side2 A17.out).mono ?_); (case side1 => exact Kd.C_below HR0.out u10_); (case side2 => exact HC0.out); rintro e w44 ⟨rfl, hb⟩; refine ⟨_, rfl, ?_⟩; have n0_ := Aside0.mk (blk_below (g := gb141) (o := .cells #[.string a1_0, .slice (some ad144) l1_1.length c1_1] 41 (0, 0)) u26_ hb); have n1_ := Aside0.mk (blk_below (g := gb145) (o := .cells #[.string ((rd_T46 l1_1 x20_2).f0), .string ((rd_T46 l1_1 x20_2).f1)] 46 (0, 0)) u22_ hb); have n2_ := Aside0.mk (below_step u10_ hb); clear BK141; clear BK145; clear HB; have BK141 := n0_; have BK145 := n1_; have HB := n2_; clear n0_ n1_ n2_; (try clear hb); (try clear hb2); (try clear hk); (try clear hi); have hcz45_0 : w44.cell? ⟨gb145, 0, none⟩ = some (.string ((rd_T46 l1_1 x20_2).f0)) := (blk_cell BK145.out 0).trans rfl; have hcz45_1 : w44.cell? ⟨gb145, 1, none⟩ = some (.string ((rd_T46 l1_1 x20_2).f1)) := (blk_cell BK145.out 1).trans rfl; have hfz45_0 := blk_frozen BK145.out 0; have hfz45_1 := blk_frozen BK145.out 1) | ((with_reducible refine gate_callee (f := 62) rfl ?_); refine goesL_ (some 45) rfl rfl Tryd.func62 u7_ rfl #[.string ((rd_T46 l1_1 x20_2).f1)] rfl u1_ ?_; (with_reducible refine (impl_tagsOk.calls k2 ((rd_T46 l1_1 x20_2).f1) true _ ?side1 A39.out).mono ?_); (case side1 => exact StopsIn.below HG_.out u10_); rintro e w46 ⟨rfl, hb⟩; refine ⟨_, rfl, ?_⟩; have n0_ := Aside0.mk (blk_below (g := gb141) (o := .cells #[.string a1_0, .slice (some ad144) l1_1.length c1_1] 41 (0, 0)) u15_ hb); have n1_ := Aside0.mk (blk_below (g := gb145) (o := .cells #[.string ((rd_T46 l1_1 x20_2).f0), .string ((rd_T46 l1_1 x20_2).f1)] 46 (0, 0)) u74_ hb); have n2_ := Aside0.mk (below_step u10_ hb); clear BK141; clear BK145; clear HB; have BK141 := n0_; have BK145 := n1_; have HB := n2_; clear n0_ n1_ n2_; (try clear hb); (try clear hb2); (try clear hk); (try clear hi)))
             go_roundg k2
             case measure => have := HJ2.out; have := HK2.out; omega
             case rel => exact ⟨(wrap64 (x20_2 + 1)), u16_, H', ⟨by have := HJ2.out; have := HK2.out; omega⟩, ⟨u15_⟩, ⟨u10_⟩⟩
            ·replace c40 := Bool.eq_false_iff.mpr c40
             subst c40
             have H1 : (some false) = some r := by rw [if_neg (show ¬ (false = true) by decide)] at H; exact H
             clear H
             have H := H1
             clear H1
             obtain rfl := Option.some.inj H
             have p144 : 0 ≤ (x20_2 : Int) := of_decide_eq_true u2_
             have q144 : x20_2 < (l1_1.length : Int) := of_decide_eq_true u2_
             obtain ⟨ad144, e144, hx144_0, hx144_1⟩ := at_T46 HR1_1.out x20_2 p144 q144
             cases e144
             replace hx144_0 := (HB.out.cell (World.block_lt_of_cell? w _ hx144_0)).trans hx144_0
             replace hx144_1 := (HB.out.cell (World.block_lt_of_cell? w _ hx144_1)).trans hx144_1
             replace p144 := eq_true p144
             replace q144 := eq_true q144
             go_wp2_with (first | ((with_reducible refine gate_dst (N := 6) rfl ?_); refine box_event ?hg (N := 6) ?hd (cs := #[.string (⟨#[]⟩ : ByteArray), .string (⟨#[]⟩ : ByteArray)]) (t := 46) ?hr ?_; (case hd => rfl); (case hg => rfl); (case hr => first | (go_simp; done) | (go_simp; rfl)); intro gb145 hg w47 hbox hb; have n0_ := Aside0.mk (blk_below (g := gb141) (o := .cells #[.string a1_0, .slice (some ad144) l1_1.length c1_1] 41 (0, 0)) u15_ hb); have n1_ := Aside0.mk (below_step u19_ hb); have n2_ := Aside0.mk (hbox); have n3_ := Aside0.mk ((by rw [hg]; exact (below_size u19_) : w.heap.size ≤ gb145)); have n4_ := n3_; have n5_ := Aside0.mk ((by rw [hg]; exact Nat.ne_of_lt (blk_lt (g := gb141) (o := .cells #[.string a1_0, .slice (some ad144) l1_1.length c1_1] 41 (0, 0)) u15_) : gb141 ≠ gb145)); have n6_ := Aside0.mk ((by rw [hg]; exact Nat.ne_of_gt (blk_lt (g := gb141) (o := .cells #[.string a1_0, .slice (some ad144) l1_1.length c1_1] 41 (0, 0)) u15_) : gb145 ≠ gb141)); clear BK141; clear HB; have BK141 := n0_; have HB := n1_; have BK145 := n2_; have GW145 := n3_; have GE145 := n4_; have NB141_145 := n5_; have NB145_141 := n6_; clear n0_ n1_ n2_ n3_ n4_ n5_ n6_; clear hb hbox hg; have hnb48 := NB145_141.out; have hnc48 := NB141_145.out; have hcz49_0 : w47.cell? ⟨gb145, 0, none⟩ = some (.string (⟨#[]⟩ : ByteArray)) := (blk_cell BK145.out 0).trans rfl; have hcz49_1 : w47.cell? ⟨gb145, 1, none⟩ = some (.string (⟨#[]⟩ : ByteArray)) := (blk_cell BK145.out 1).trans rfl; have hfz49_0 := blk_frozen BK145.out 0; have hfz49_1 := blk_frozen BK145.out 1) | ((with_reducible refine gate_callee (f := 61) rfl ?_); refine goesL_ (some 27) rfl rfl Tryd.func61 u7_ rfl #[.slice A0 l0.length c0, .string ((rd_T46 l1_1 x20_2).f0)] rfl u1_ ?_; (with_reducible refine (impl_fieldOf.calls k2 _ _ l0 ((rd_T46 l1_1 x20_2).f0) t146 t147 t148 _ ?side1 ?side2 A17.out).mono ?_); (case side1 => exact Kd.C_below HR0.out u10_); (case side2 => exact HC0.out); rintro e w50 ⟨rfl, hb⟩; refine ⟨_, rfl, ?_⟩; have n0_ := Aside0.mk (blk_below (g := gb141) (o := .cells #[.string a1_0, .slice (some ad144) l1_1.length c1_1] 41 (0, 0)) u26_ hb); have n1_ := Aside0.mk (blk_below (g := gb145) (o := .cells #[.string ((rd_T46 l1_1 x20_2).f0), .string ((rd_T46 l1_1 x20_2).f1)] 46 (0, 0)) u22_ hb); have n2_ := Aside0.mk (below_step u10_ hb); clear BK141; clear BK145; clear HB; have BK141 := n0_; have BK145 := n1_; have HB := n2_; clear n0_ n1_ n2_; (try clear hb); (try clear hb2); (try clear hk); (try clear hi); have hcz51_0 : w50.cell? ⟨gb145, 0, none⟩ = some (.string ((rd_T46 l1_1 x20_2).f0)) := (blk_cell BK145.out 0).trans rfl; have hcz51_1 : w50.cell? ⟨gb145, 1, none⟩ = some (.string ((rd_T46 l1_1 x20_2).f1)) := (blk_cell BK145.out 1).trans rfl; have hfz51_0 := blk_frozen BK145.out 0; have hfz51_1 := blk_frozen BK145.out 1) | ((with_reducible refine gate_callee (f := 62) rfl ?_); refine goesL_ (some 45) rfl rfl Tryd.func62 u7_ rfl #[.string ((rd_T46 l1_1 x20_2).f1)] rfl u1_ ?_; (with_reducible refine (impl_tagsOk.calls k2 ((rd_T46 l1_1 x20_2).f1) false _ ?side1 A39.out).mono ?_); (case side1 => exact StopsIn.below HG_.out u10_); rintro e w52 ⟨rfl, hb⟩; refine ⟨_, rfl, ?_⟩; have n0_ := Aside0.mk (blk_below (g := gb141) (o := .cells #[.string a1_0, .slice (some ad144) l1_1.length c1_1] 41 (0, 0)) u15_ hb); have n1_ := Aside0.mk (blk_below (g := gb145) (o := .cells #[.string ((rd_T46 l1_1 x20_2).f0), .string ((rd_T46 l1_1 x20_2).f1)] 46 (0, 0)) u74_ hb); have n2_ := Aside0.mk (below_step u10_ hb); clear BK141; clear BK145; clear HB; have BK141 := n0_; have BK145 := n1_; have HB := n2_; clear n0_ n1_ n2_; (try clear hb); (try clear hb2); (try clear hk); (try clear hi)))
             go_ret
             exact ⟨u3_, u10_⟩
           ·rw [if_neg c38] at H
            have c38b0 : (t147 == 3) = false := beq_eq_false_iff_ne.mpr c38
            have c38b1 : (t147 != 3) = true := bne_iff_ne.mpr c38
            obtain rfl := Option.some.inj H
            have p144 : 0 ≤ (x20_2 : Int) := of_decide_eq_true u2_
            have q144 : x20_2 < (l1_1.length : Int) := of_decide_eq_true u2_
            obtain ⟨ad144, e144, hx144_0, hx144_1⟩ := at_T46 HR1_1.out x20_2 p144 q144
            cases e144
            replace hx144_0 := (HB.out.cell (World.block_lt_of_cell? w _ hx144_0)).trans hx144_0
            replace hx144_1 := (HB.out.cell (World.block_lt_of_cell? w _ hx144_1)).trans hx144_1
            replace p144 := eq_true p144
            replace q144 := eq_true q144
            go_wp2_with (first | ((with_reducible refine gate_dst (N := 6) rfl ?_); refine box_event ?hg (N := 6) ?hd (cs := #[.string (⟨#[]⟩ : ByteArray), .string (⟨#[]⟩ : ByteArray)]) (t := 46) ?hr ?_; (case hd => rfl); (case hg => rfl); (case hr => first | (go_simp; done) | (go_simp; rfl)); intro gb145 hg w53 hbox hb; have n0_ := Aside0.mk (blk_below (g := gb141) (o := .cells #[.string a1_0, .slice (some ad144) l1_1.length c1_1] 41 (0, 0)) u15_ hb); have n1_ := Aside0.mk (below_step u19_ hb); have n2_ := Aside0.mk (hbox); have n3_ := Aside0.mk ((by rw [hg]; exact (below_size u19_) : w.heap.size ≤ gb145)); have n4_ := n3_; have n5_ := Aside0.mk ((by rw [hg]; exact Nat.ne_of_lt (blk_lt (g := gb141) (o := .cells #[.string a1_0, .slice (some ad144) l1_1.length c1_1] 41 (0, 0)) u15_) : gb141 ≠ gb145)); have n6_ := Aside0.mk ((by rw [hg]; exact Nat.ne_of_gt (blk_lt (g := gb141) (o := .cells #[.string a1_0, .slice (some ad144) l1_1.length c1_1] 41 (0, 0)) u15_) : gb145 ≠ gb141)); clear BK141; clear HB; have BK141 := n0_; have HB := n1_; have BK145 := n2_; have GW145 := n3_; have GE145 := n4_; have NB141_145 := n5_; have NB145_141 := n6_; clear n0_ n1_ n2_ n3_ n4_ n5_ n6_; clear hb hbox hg; have hnb54 := NB145_141.out; have hnc54 := NB141_145.out; have hcz55_0 : w53.cell? ⟨gb145, 0, none⟩ = some (.string (⟨#[]⟩ : ByteArray)) := (blk_cell BK145.out 0).trans rfl; have hcz55_1 : w53.cell? ⟨gb145, 1, none⟩ = some (.string (⟨#[]⟩ : ByteArray)) := (blk_cell BK145.out 1).trans rfl; have hfz55_0 := blk_frozen BK145.out 0; have hfz55_1 := blk_frozen BK145.out 1) | ((with_reducible refine gate_callee (f := 61) rfl ?_); refine goesL_ (some 27) rfl rfl Tryd.func61 u7_ rfl #[.slice A0 l0.length c0, .string ((rd_T46 l1_1 x20_2).f0)] rfl u1_ ?_; (with_reducible refine (impl_fieldOf.calls k2 _ _ l0 ((rd_T46 l1_1 x20_2).f0) t146 t147 t148 _ ?side1 ?side2 A17.out).mono ?_); (case side1 => exact Kd.C_below HR0.out u10_); (case side2 => exact HC0.out); rintro e w56 ⟨rfl, hb⟩; refine ⟨_, rfl, ?_⟩; have n0_ := Aside0.mk (blk_below (g := gb141) (o := .cells #[.string a1_0, .slice (some ad144) l1_1.length c1_1] 41 (0, 0)) u26_ hb); have n1_ := Aside0.mk (blk_below (g := gb145) (o := .cells #[.string ((rd_T46 l1_1 x20_2).f0), .string ((rd_T46 l1_1 x20_2).f1)] 46 (0, 0)) u22_ hb); have n2_ := Aside0.mk (below_step u10_ hb); clear BK141; clear BK145; clear HB; have BK141 := n0_; have BK145 := n1_; have HB := n2_; clear n0_ n1_ n2_; (try clear hb); (try clear hb2); (try clear hk); (try clear hi)))
            go_ret
            exact ⟨u3_, u10_⟩
        ·rw [if_neg c16] at H
         exact absurd H u75_
       ·rw [if_neg c15] at H
        exact absurd H u75_
      ·rw [if_neg c14] at H
       have c14b0 : decide (x20_2 < (l1_1.length : Int)) = false := decide_eq_false c14
       clear c14
       obtain rfl := Option.some.inj H
       go_wp2
       go_ret
       exact ⟨u3_, u19_⟩

/-! ### spec_l2Field: function 63 -/
def spec_l2Field.l0 : Nat → List (S75) → ByteArray → Int → Option (Int)
 | 0, _, _, _ => none
 | k + 1, x0, x1, x5 => if x5 < (x0.length : Int) then (if 0 ≤ x5 then (if ((rd_T75 x0 x5).f0).toList = x1.toList then (some x5) else (spec_l2Field.l0 k x0 x1 (wrap64 (x5 + 1)))) else (none)) else (some (-1))
def spec_l2Field.f (k : Nat) (l0 : List (S75)) (a1 : ByteArray) : Option (Int) := spec_l2Field.l0 k l0 a1 0
theorem spec_l2Field.mono_l : ∀ k, (∀ y0 y1 y2, LeO (spec_l2Field.l0 k y0 y1 y2) (spec_l2Field.l0 (k + 1) y0 y1 y2))
 | 0 => fun _ _ _ r h => by simp [spec_l2Field.l0] at h
 | k + 1 => by
  have ih0 := spec_l2Field.mono_l k
  ·intro y0 y1 y2
   unfold spec_l2Field.l0
   repeat' first
   | (with_reducible exact ih0 _ _ _)
   | (with_reducible exact LeO.refl _)
   | (with_reducible exact LeO.none _)
   | (with_reducible refine LeO.ite ?_ ?_)
   | (with_reducible refine LeO.bind ?_ (fun _ => ?_))
   | exact ih0 _ _ _
   | exact LeO.none _
   | refine LeO.ite ?_ ?_
   | refine LeO.bind ?_ (fun _ => ?_)
theorem spec_l2Field.mono : ∀ a0 a1 k, LeO (spec_l2Field.f k a0 a1) (spec_l2Field.f (k + 1) a0 a1) := by
 intro a0 a1 k
 have ih0 := spec_l2Field.mono_l k
 unfold spec_l2Field.f
 repeat' first
   | (with_reducible exact ih0 _ _ _)
   | (with_reducible exact LeO.refl _)
   | (with_reducible exact LeO.none _)
   | (with_reducible refine LeO.ite ?_ ?_)
   | (with_reducible refine LeO.bind ?_ (fun _ => ?_))
   | exact ih0 _ _ _
   | exact LeO.none _
   | refine LeO.ite ?_ ?_
   | refine LeO.bind ?_ (fun _ => ?_)
set_option maxHeartbeats 8000000 in
set_option maxRecDepth 100000 in
theorem spec_l2Field.calls (k : Nat) (A0 : Option Addr) (c0 : Nat) (l0 : List (S75)) (a1 : ByteArray) (r : Int) (w : World) (hr0 : Kd.C k75 w A0 l0.length l0) (hc0 : l0.length ≤ c0) (h : spec_l2Field.f k l0 a1 = some r) :
  Calls Tryd.prog 63 #[.slice A0 l0.length c0, .string a1] w fun e w' => e = .returned (.int .i64 r) ∧ Drawn0 w w' := by
 have HR0 := Aside0.mk hr0
 have HC0 := Aside0.mk hc0
 clear hr0 hc0
 have H : (spec_l2Field.l0 k l0 a1 0) = some r := h
 clear h
 have H' := Aside0.mk H
 clear H
 go_enter Tryd.func63, Tryd.ntmps63
 go_wp2
 go_loopg [5] k (fun kq v5 w' => ∃ (x5_1 : Int), v5 = .int .i64 x5_1 ∧ Aside0 (spec_l2Field.l0 kq l0 a1 x5_1 = some r) ∧ Aside0 (kq ≤ k) ∧ Drawn0 w w')
 case atStart => exact ⟨(0), u16_, H', ⟨Nat.le_refl _⟩, u20_⟩
 case round =>
  clear H'
  try clear p2
  obtain ⟨x5_1, rfl, HA, HK1, ⟨m1, rfl⟩⟩ := hrel
  cases gk with
  | zero => exact absurd HA.out (by simp [spec_l2Field.l0])
  | succ k1 =>
   have H := HA.out
   clear HA
   simp only [spec_l2Field.l0] at H
   by_cases c3 : x5_1 < (l0.length : Int)
   ·rw [if_pos c3] at H
    have c3b0 : decide (x5_1 < (l0.length : Int)) = true := decide_eq_true c3
    clear c3
    by_cases c4 : 0 ≤ x5_1
    ·rw [if_pos c4] at H
     have c4b0 : decide (0 ≤ x5_1) = true := decide_eq_true c4
     clear c4
     by_cases c5 : ((rd_T75 l0 x5_1).f0).toList = a1.toList
     ·rw [if_pos c5] at H
      have c5b0 : (((rd_T75 l0 x5_1).f0).toList == a1.toList) = true := beq_iff_eq.mpr c5
      have c5b1 : (((rd_T75 l0 x5_1).f0).toList != a1.toList) = false := bne_eq_false_iff_eq.mpr c5
      clear c5
      obtain rfl := Option.some.inj H
      have p152 : 0 ≤ (x5_1 : Int) := of_decide_eq_true u2_
      have q152 : x5_1 < (l0.length : Int) := of_decide_eq_true u2_
      obtain ⟨ad152, e152, hx152_0, hx152_1, hx152_2⟩ := at_T75 HR0.out x5_1 p152 q152
      cases e152
      replace p152 := eq_true p152
      replace q152 := eq_true q152
      go_wp2
      go_ret
      exact ⟨u21_, u20_⟩
     ·rw [if_neg c5] at H
      have c5b0 : (((rd_T75 l0 x5_1).f0).toList == a1.toList) = false := beq_eq_false_iff_ne.mpr c5
      have c5b1 : (((rd_T75 l0 x5_1).f0).toList != a1.toList) = true := bne_iff_ne.mpr c5
      have H' := Aside0.mk H
      clear H
      have p152 : 0 ≤ (x5_1 : Int) := of_decide_eq_true u2_
      have q152 : x5_1 < (l0.length : Int) := of_decide_eq_true u2_
      obtain ⟨ad152, e152, hx152_0, hx152_1, hx152_2⟩ := at_T75 HR0.out x5_1 p152 q152
      cases e152
      replace p152 := eq_true p152
      replace q152 := eq_true q152
      go_wp2
      go_roundg k1
      case measure => have := HK1.out; omega
      case rel => exact ⟨(wrap64 (x5_1 + 1)), u16_, H', ⟨u65_⟩, u20_⟩
    ·rw [if_neg c4] at H
     exact absurd H u75_
   ·rw [if_neg c3] at H
    have c3b0 : decide (x5_1 < (l0.length : Int)) = false := decide_eq_false c3
    clear c3
    obtain rfl := Option.some.inj H
    go_wp2
    go_ret
    exact ⟨u21_, u20_⟩

/-! ### spec_l1In: function 68 -/
def spec_l1In.f (a0 : Int) (a1 : Int) (a2 : Int) : Option (Bool) := if a0 ≥ a1 then (some (decide (a0 ≤ a2))) else (some false)
set_option maxHeartbeats 8000000 in
set_option maxRecDepth 100000 in
theorem spec_l1In.calls (a0 : Int) (a1 : Int) (a2 : Int) (r : Bool) (w : World) (h : spec_l1In.f a0 a1 a2 = some r) :
  Calls Tryd.prog 68 #[.int .i64 a0, .int .i64 a1, .int .i64 a2] w fun e w' => e = .returned (.bool r) ∧ Drawn0 w w' := by
 have H : (if a0 ≥ a1 then (some (decide (a0 ≤ a2))) else (some false)) = some r := h
 clear h
 by_cases c4 : a0 ≥ a1
 ·rw [if_pos c4] at H
  have c4b0 : decide (a1 ≤ a0) = true := decide_eq_true c4
  clear c4
  obtain rfl := Option.some.inj H
  go_enter Tryd.func68, Tryd.ntmps68
  go_wp2
  go_ret
  exact ⟨u21_, u20_⟩
 ·rw [if_neg c4] at H
  have c4b0 : decide (a1 ≤ a0) = false := decide_eq_false c4
  clear c4
  obtain rfl := Option.some.inj H
  go_enter Tryd.func68, Tryd.ntmps68
  go_wp2
  go_ret
  exact ⟨u21_, u20_⟩

end Go.Proofs.YtelcdhjdlgedeaaDoor.PFnExactDocOk
