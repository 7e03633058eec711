/- Contracts of Go functions that the law FnIndexNew reaches: each is told as a plain Lean function, with the walk that shows it; no condition beyond what each states. Written by a program of this session round the kit's printer. -/
import Derived.Test.YtelcdhjdlgedeaaGreatDoorVPFnIndexNewx0
import Derived.Test.YtelcdhjdlgedeaaGreatDoorVPFnIndexNewx3
import Derived.Test.YtelcdhjdlgedeaaGreatDoorVPFnIndexNewx4
import Derived.Test.YtelcdhjdlgedeaaGreatDoorVPFnIndexNewx6
import Derived.Test.YtelcdhjdlgedeaaGreatDoorVPFnIndexNewx8
namespace Go.Proofs.YtelcdhjdlgedeaaGreatDoor.PFnIndexNew
open Go.RowKit Go.Proofs.YtelcdhjdlgedeaaGreatDoorW.PrintWords Go.Proofs.YtelcdhjdlgedeaaGreatDoorW.PrintLast Go.Proofs.YtelcdhjdlgedeaaGreatDoorW.PrintMore
attribute [local go_sem] run_str_geq run_str_leq max2_int min2_int max_two min_two max_three min_three max_four min_four   -- for this text's walks alone
set_option linter.unusedVariables false
set_option linter.unusedSimpArgs false

/-! ### impl_IndexOk: function 9 -/
theorem alloc_size0 (w : World) (o : Obj) : (w.alloc o).heap.size = w.heap.size + 1 := Array.size_push ..
set_option maxRecDepth 100000 in
theorem ins0 (A : Option Addr) (c : Nat) (u : Value) (w : World) : Calls Tryz.prog 107 #[.slice A 0 c, .int .i64 0, .int .i64 0, u] w fun e w' => e = .returned (.tuple #[]) ∧ Below w.heap.size w w' := by
 go_enter Tryz.func107, Tryz.ntmps107
 go_wp2; go_loopw [8] (fun v wr => v = .int .i64 1 ∧ Aside0 (Below w.heap.size w wr)) (fun _ _ => 0)
 case atStart => exact ⟨rfl, ⟨Below.refl _ _⟩⟩
 case round =>
  obtain ⟨rfl, HB⟩ := hrel; go_wp2; go_end0
  exact ⟨rfl, HB.out⟩
set_option maxRecDepth 100000 in
theorem pdq0 (A : Option Addr) (c : Nat) (n : Int) (u : Value) (w : World) : Calls Tryz.prog 91 #[.slice A 0 c, .int .i64 0, .int .i64 0, .int .i64 n, u] w fun e w' => e = .returned (.tuple #[]) ∧ Below w.heap.size w w' := by
 go_enter Tryz.func91, Tryz.ntmps91
 go_wp2; go_loopw [1, 2, 10] (fun v1 v2 v wr => v1 = .int .i64 0 ∧ v2 = .int .i64 0 ∧ v = .bool true ∧ Aside0 (Below w.heap.size w wr)) (fun _ _ _ _ => 0)
 case atStart => exact ⟨rfl, rfl, rfl, ⟨Below.refl _ _⟩⟩
 case round =>
  obtain ⟨rfl, rfl, rfl, HB⟩ := hrel; go_wp2_with (first | ((with_reducible refine gate_callee (f := 107) rfl ?_); refine goesL_ (some 30) rfl rfl Tryz.func107 u10_ rfl #[.slice A 0 c, .int .i64 0, .int .i64 0, u] rfl u46_ ?_; (with_reducible refine (ins0 A c u _).mono ?_); rintro e w' ⟨rfl, hb⟩; refine ⟨_, rfl, ?_⟩; have HB := am_ (below_step HB.out hb); clear hb))
  refine bodyPost_ret (results_none rfl _ _ _) rfl ?_; exact ⟨rfl, HB.out⟩

set_option maxRecDepth 100000 in
theorem len64_0 (w : World) : Calls Tryz.prog 116 #[.int .u64 0] w fun e w' => (∃ n, e = .returned (.int .i64 n)) ∧ Below w.heap.size w w' := by
 go_enter Tryz.func116, Tryz.ntmps116
 go_wp2; go_ret
 exact ⟨⟨_, rfl⟩, Below.refl _ _⟩
set_option maxRecDepth 100000 in
theorem len_0 (w : World) : Calls Tryz.prog 92 #[.int .u64 0] w fun e w' => (∃ n, e = .returned (.int .i64 n)) ∧ Below w.heap.size w w' := by
 have HB := am_ (Below.refl w.heap.size w); go_enter Tryz.func92, Tryz.ntmps92
 go_wp2_with (first | ((with_reducible refine gate_callee (f := 116) rfl ?_); refine goesL_ (some 7) rfl rfl Tryz.func116 u10_ rfl #[.int .u64 0] rfl u46_ ?_; (with_reducible refine (len64_0 _).mono ?_); rintro e w' ⟨⟨n, rfl⟩, hb⟩; refine ⟨_, rfl, ?_⟩; have HB := am_ (below_step HB.out hb); clear hb))
 go_ret
 exact ⟨⟨_, rfl⟩, HB.out⟩

set_option maxRecDepth 100000 in
theorem sort_0 (A : Option Addr) (c : Nat) (u : Value) (w : World) : Calls Tryz.prog 66 #[.slice A 0 c, u] w fun e w' => e = .returned (.tuple #[]) ∧ Below w.heap.size w w' := by
 have HB := am_ (Below.refl w.heap.size w); go_enter Tryz.func66, Tryz.ntmps66
 go_wp2_with (first | ((with_reducible refine gate_callee (f := 92) rfl ?_); refine goesL_ (some 11) rfl rfl Tryz.func92 u10_ rfl #[.int .u64 0] rfl u46_ ?_; (with_reducible refine (len_0 _).mono ?_); rintro e w' ⟨⟨n, rfl⟩, hb⟩; refine ⟨_, rfl, ?_⟩; have HB := am_ (below_step HB.out hb); clear hb) | ((with_reducible refine gate_callee (f := 91) rfl ?_); refine goesL_ (some 13) rfl rfl Tryz.func91 u10_ rfl #[.slice A 0 c, .int .i64 0, .int .i64 0, .int .i64 n, u] rfl u46_ ?_; (with_reducible refine (pdq0 A c n u _).mono ?_); rintro e w' ⟨rfl, hb⟩; refine ⟨_, rfl, ?_⟩; have HB := am_ (below_step HB.out hb); clear hb))
 go_end0
 exact ⟨rfl, HB.out⟩
set_option maxHeartbeats 8000000 in
set_option maxRecDepth 100000 in
theorem entries0 (A B : Option Addr) (l c d : Nat) (w : World) : Calls Tryz.prog 34 #[.slice A l c, .slice B 0 d] w fun e w' => (∃ X cap, e = .returned (.slice X 0 cap)) ∧ Below w.heap.size w w' := by
 have HB := am_ (Below.refl w.heap.size w); have hmm := @run_makeMap Tryz.prog; go_enter Tryz.func34, Tryz.ntmps34
 go_wp2; go_loopw [20] (fun v wr => v = .int .i64 0 ∧ Aside0 (Below w.heap.size w wr) ∧ Aside0 (wr.heap[w.heap.size]? = some (.map #[] 0))) (fun _ _ => 0)
 case atStart => exact ⟨rfl, ⟨by apply below_alloc; exact Below.refl _ _⟩, ⟨heap_alloc_new w _⟩⟩
 case round =>
  obtain ⟨rfl, HB, HM⟩ := hrel; have hlt : w.heap.size < wr.heap.size := by
   rcases Nat.lt_or_ge w.heap.size wr.heap.size with h | h
   ·exact h
   ·have := HM.out; rw [Array.getElem?_eq_none h] at this; cases this
  have hM : (wr.alloc (.cells #[] 62)).heap[w.heap.size]? = some (.map #[] 0) := by rw [heap_alloc_old wr _ hlt]; exact HM.out
  have hr := run_range_map (P := Tryz.prog) (wr.alloc (.cells #[] 62)) 106 _ _ w.heap.size #[] 0 Tryz.underlying106 hM; have hn : (Instr.next (.pointer (some ⟨(wr.alloc (.cells #[] 62)).heap.size, 0, none⟩)) false 0).run Tryz.prog ((wr.alloc (.cells #[] 62)).alloc (.mapIter (some w.heap.size) 0 #[] 0)) = .ok (.tuple #[.bool false]) ((wr.alloc (.cells #[] 62)).alloc (.mapIter (some w.heap.size) 0 #[] 0)) := by
   rcases run_next_map (P := Tryz.prog) (wr.alloc (.cells #[] 62)) 0 w.heap.size 0 0 #[] #[] 0 hM u65_ (Nat.le_refl _) with ⟨_, h⟩ | ⟨e, he, _⟩
   ·exact h
   ·simp [leftOf] at he
  rw [alloc_size0] at hn; go_wp2; go_loopw [14] (fun v wq => v = .slice (some ⟨wr.heap.size, 0, none⟩) 0 0 ∧ wq = (wr.alloc (.cells #[] 62)).alloc (.mapIter (some w.heap.size) 0 #[] 0)) (fun _ _ => 0)
  case atStart => exact ⟨rfl, rfl⟩
  case round =>
   obtain ⟨rfl, rfl⟩ := hrel; have HB := am_ (show Below w.heap.size w ((wr.alloc (.cells #[] 62)).alloc (.mapIter (some w.heap.size) 0 #[] 0)) from by repeat (first | apply below_alloc | exact HB.out)); go_wp2_with (first | ((with_reducible refine gate_callee (f := 66) rfl ?_); refine goesL_ (some 117) rfl rfl Tryz.func66 u10_ rfl #[.slice (some ⟨wr.heap.size, 0, none⟩) 0 0, .func (.func 67) #[] #[]] rfl u46_ ?_; (with_reducible refine (sort_0 (some ⟨wr.heap.size, 0, none⟩) 0 (.func (.func 67) #[] #[]) _).mono ?_); rintro e w' ⟨rfl, hb⟩; refine ⟨_, rfl, ?_⟩; have HB := am_ (below_step HB.out hb); clear hb))
   go_ret
   exact ⟨⟨_, _, rfl⟩, HB.out⟩
theorem eq0 (A A' : Option Addr) (c c' : Nat) (u : Value) (w : World) : Calls Tryz.prog 33 #[.slice A 0 c, .slice A' 0 c', u] w fun e w' => e = .returned (.bool true) ∧ Below w.heap.size w w' := by
 go_enter Tryz.func33, Tryz.ntmps33
 go_wp2; go_loopw [17] (fun v wr => v = .int .i64 0 ∧ Aside0 (Below w.heap.size w wr)) (fun _ _ => 0)
 case atStart => exact ⟨rfl, ⟨Below.refl _ _⟩⟩
 case round =>
  obtain ⟨rfl, HB⟩ := hrel; go_wp2; go_ret
  exact ⟨rfl, HB.out⟩
def ix_T9 : Bool × List (List Nat × List Nat) := (true, [([], []), ([0], [0]), ([], []), ([2], [2]), ([], []), ([4], [4]), ([3, 5], [3, 5]), ([1, 6, 6], [1, 6]), ([7, 7, 0, 1, 2, 3, 4, 5, 6, 7], [7])])
def ix_B9 : List Nat := [0, 1, 0, 4, 0, 16, 60, 127, 255]
theorem ix_tab9 : rtab .any (opsOf Tryz.f9 9) = ix_T9 := by kernel_rfl
theorem ix_bits9 : waitsOk ix_T9.2 ix_B9 = true := by kernel_rfl
set_option maxHeartbeats 8000000 in
set_option maxRecDepth 100000 in
theorem indexOk0 (k : Nat) (A0 : Option Addr) (c0 : Nat) (l0 : List S79) (A1 A2 : Option Addr) (c1 c2 : Nat) (w : World) (hr0 : Kd.C k79 w A0 l0.length l0) (hc0 : l0.length ≤ c0) (h : impl_FieldsOk.f k l0 = some true) : Calls Tryz.prog 9 #[.agg #[.slice A0 l0.length c0, .slice A1 0 c1, .slice A2 0 c2, .int .i64 0]] w fun e w' => e = .returned (.bool true) ∧ Below w.heap.size w w' := by
 have hu28 := Tryz.underlying28; have HB := am_ (Below.refl w.heap.size w); have HR := am_ hr0; clear hr0; go_enter Tryz.func9, Tryz.ntmps9
 go_wp2_with (first | ((with_reducible refine gate_dst (N := 1) rfl ?_); (try (refine gate_guard u32_ ?_; dsimp only)); refine box_event ?hg (N := 1) ?hd (cs := #[.slice A0 l0.length c0, .slice A1 0 c1, .slice A2 0 c2, .int .i64 0]) (t := 28) ?hr ?_; (case hd => rfl); (case hg => rfl); (case hr => exact u30_); intro gb hg w2 hbox hb; have BK := am_ hbox; replace HB := am_ (below_step u5_ hb); clear hb hbox hg; have hcz_0 : w2.cell? ⟨gb, 0, none⟩ = some (.slice A0 l0.length c0) := (blk_cell BK.out 0).trans rfl; have hfz_0 := blk_frozen BK.out 0; have hcz_1 : w2.cell? ⟨gb, 1, none⟩ = some (.slice A1 0 c1) := (blk_cell BK.out 1).trans rfl; have hfz_1 := blk_frozen BK.out 1; have hcz_2 : w2.cell? ⟨gb, 2, none⟩ = some (.slice A2 0 c2) := (blk_cell BK.out 2).trans rfl; have hfz_2 := blk_frozen BK.out 2; have hcz_3 : w2.cell? ⟨gb, 3, none⟩ = some (.int .i64 0) := (blk_cell BK.out 3).trans rfl; have hfz_3 := blk_frozen BK.out 3) | ((with_reducible refine gate_callee (f := 25) rfl ?_); refine goesL_ (some 7) rfl rfl Tryz.func25 u10_ rfl #[.slice A0 l0.length c0] rfl u46_ ?_; (with_reducible refine (impl_FieldsOk.calls k A0 c0 l0 true _ ?side1 hc0 h).mono ?_); (case side1 => repeat (first | exact (Kd.C_below HR.out HB.out) | (with_reducible refine Kd.C_alloc ?_ _) | (with_reducible refine Kd.C_drewN ?_ _) | (with_reducible refine Kd.C_drew ?_))); rintro e w3 ⟨rfl, hb⟩; refine ⟨_, rfl, ?_⟩; clear hcz_0 hfz_0 hcz_1 hfz_1 hcz_2 hfz_2 hcz_3 hfz_3; replace BK := am_ (blk_below (g := gb) (o := .cells #[.slice A0 l0.length c0, .slice A1 0 c1, .slice A2 0 c2, .int .i64 0] 28 (0, 0)) u57_ hb); replace HB := am_ (below_step u5_ hb); clear hb; have hcz_0 : w3.cell? ⟨gb, 0, none⟩ = some (.slice A0 l0.length c0) := (blk_cell BK.out 0).trans rfl; have hfz_0 := blk_frozen BK.out 0; have hcz_1 : w3.cell? ⟨gb, 1, none⟩ = some (.slice A1 0 c1) := (blk_cell BK.out 1).trans rfl; have hfz_1 := blk_frozen BK.out 1; have hcz_2 : w3.cell? ⟨gb, 2, none⟩ = some (.slice A2 0 c2) := (blk_cell BK.out 2).trans rfl; have hfz_2 := blk_frozen BK.out 2; have hcz_3 : w3.cell? ⟨gb, 3, none⟩ = some (.int .i64 0) := (blk_cell BK.out 3).trans rfl; have hfz_3 := blk_frozen BK.out 3) | (go_at_call 30; (with_reducible refine (impl_within.calls 0 0 999999999 true _ rfl).mono ?_); rintro e w' ⟨rfl, ⟨nd, rfl⟩⟩))
 go_loopw [24] (fun v wr => v = .int .i64 0 ∧ Aside0 (wr.heap[gb]? = some (.cells #[.slice A0 l0.length c0, .slice A1 0 c1, .slice A2 0 c2, .int .i64 0] 28 (0, 0))) ∧ Aside0 (Below w.heap.size w wr)) (fun _ _ => 0)
 case atStart => exact ⟨rfl, ⟨u57_⟩, ⟨u5_⟩⟩
 case round =>
  clear hcz_0 hfz_0 hcz_1 hfz_1 hcz_2 hfz_2 hcz_3 hfz_3 BK HB; obtain ⟨rfl, BK, HB⟩ := hrel; have hcz_0 : wr.cell? ⟨gb, 0, none⟩ = some (.slice A0 l0.length c0) := (blk_cell BK.out 0).trans rfl; have hfz_0 := blk_frozen BK.out 0; have hcz_1 : wr.cell? ⟨gb, 1, none⟩ = some (.slice A1 0 c1) := (blk_cell BK.out 1).trans rfl; have hfz_1 := blk_frozen BK.out 1; have hcz_2 : wr.cell? ⟨gb, 2, none⟩ = some (.slice A2 0 c2) := (blk_cell BK.out 2).trans rfl; have hfz_2 := blk_frozen BK.out 2; have hcz_3 : wr.cell? ⟨gb, 3, none⟩ = some (.int .i64 0) := (blk_cell BK.out 3).trans rfl; have hfz_3 := blk_frozen BK.out 3; go_wp2; clear hcz_0 hfz_0 hcz_1 hfz_1 hcz_2 hfz_2 hcz_3 hfz_3; refine start_ (n := 9) (S := fun w' => w'.cell? ⟨gb, 0, none⟩ = some (.slice A0 l0.length c0) ∧ w'.cell? ⟨gb, 1, none⟩ = some (.slice A1 0 c1) ∧ w'.cell? ⟨gb, 2, none⟩ = some (.slice A2 0 c2)) (ds := []) (bm_ 9 0) u10_ rfl rfl ⟨(blk_cell (blk_drew BK.out) 0).trans rfl, (blk_cell (blk_drew BK.out) 1).trans rfl, (blk_cell (blk_drew BK.out) 2).trans rfl⟩ (fun hHeld => ?_); refine with_tabW ix_tab9 ix_bits9 (fun HT_ HW_ => ?_); have n0_ := am_ (blk_drew BK.out); have n1_ := am_ (below_drew1 HB.out); clear BK HB; have BK := n0_; have HB := n1_; clear n0_ n1_; generalize wr.drew = w9 at BK HB hHeld ⊢; refine pure_ (i := 0) (N := some 70) (v := ?_) (a' := ?_) (bm_ 9 1) rfl rfl (any_of HT_.out u10_) (fun _ _ _ h => h) (Or.inl ⟨u32_, ?_⟩) ?_ ?_; rotate_left
  ·exact u6_
  rotate_left
  ·exact u0_
  refine pure_ (i := 2) (N := some 72) (v := ?_) (a' := ?_) (bm_ 9 5) rfl rfl (any_of HT_.out u10_) (fun _ _ _ h => h) (Or.inl ⟨u32_, ?_⟩) ?_ ?_; rotate_left
  ·exact u6_
  rotate_left
  ·exact u0_
  refine pure_ (i := 4) (N := some 74) (v := ?_) (a' := ?_) (bm_ 9 21) rfl rfl (any_of HT_.out u10_) (fun _ _ _ h => h) (Or.inl ⟨u32_, ?_⟩) ?_ ?_; rotate_left
  ·exact u6_
  rotate_left
  ·exact u0_
  refine take_ (i := 1) (N := some 71) (v := ?_) (a' := ?_) (bm_ 9 23) rfl rfl (take_ofW HT_.out HW_.out u10_) (fun _ _ _ h => h) (Or.inl ⟨u32_, ?_⟩) hHeld ?_ ?_; rotate_left
  ·rintro w' ⟨s0, s1, s2⟩; go_simp; with_reducible rfl
  rotate_left
  ·exact u0_
  refine take_ (i := 3) (N := some 73) (v := ?_) (a' := ?_) (bm_ 9 31) rfl rfl (take_ofW HT_.out HW_.out u10_) (fun _ _ _ h => h) (Or.inl ⟨u32_, ?_⟩) hHeld ?_ ?_; rotate_left
  ·rintro w' ⟨s0, s1, s2⟩; go_simp; with_reducible rfl
  rotate_left
  ·exact u0_
  refine take_ (i := 5) (N := some 75) (v := ?_) (a' := ?_) (bm_ 9 63) rfl rfl (take_ofW HT_.out HW_.out u10_) (fun _ _ _ h => h) (Or.inl ⟨u32_, ?_⟩) hHeld ?_ ?_; rotate_left
  ·rintro w' ⟨s0, s1, s2⟩; go_simp; with_reducible rfl
  rotate_left
  ·exact u0_
  refine one_ (i := 6) (N := some 76) (bm_ 9 127) rfl rfl (one_of HT_.out u10_) u44_ (fun K hK => ?_); refine goes_ Tryz.func34 u10_ rfl #[.slice A0 l0.length c0, .slice A1 0 c1] u32_ rfl rfl u46_ ?_; with_reducible refine (entries0 A0 A1 l0.length c0 c1 _).mono ?_
  rintro e w10 ⟨⟨X, cap, rfl⟩, hb⟩; refine ⟨_, rfl, ?_⟩; replace BK := am_ (blk_below (g := gb) (o := .cells #[.slice A0 l0.length c0, .slice A1 0 c1, .slice A2 0 c2, .int .i64 0] 28 (0, 0)) u57_ hb); replace HB := am_ (below_step u5_ hb); clear hb; refine hK.out _ _ ⟨(blk_cell BK.out 0).trans rfl, (blk_cell BK.out 1).trans rfl, (blk_cell BK.out 2).trans rfl⟩ (fun hHeld => ?_); clear hK K; refine norm_ (a' := ?_) ?_ ?_; rotate_left
  ·show Act.put _ (some 76) _ = _
   simp only [Act.put, List.setIfInBounds_toArray, List.set_cons_zero, List.set_cons_succ, i64_w, i32_w]; rfl
  refine one_ (i := 7) (N := some 77) (bm_ 9 255) rfl rfl (one_of HT_.out u10_) u44_ (fun K hK => ?_); refine goes_ Tryz.func33 u10_ rfl #[.slice A2 0 c2, .slice X 0 cap, .func (.func 35) #[] #[]] u32_ rfl rfl u46_ ?_; with_reducible refine (eq0 A2 X c2 cap (.func (.func 35) #[] #[]) _).mono ?_
  rintro e w11 ⟨rfl, hb⟩; refine ⟨_, rfl, ?_⟩; replace BK := am_ (blk_below (g := gb) (o := .cells #[.slice A0 l0.length c0, .slice A1 0 c1, .slice A2 0 c2, .int .i64 0] 28 (0, 0)) u57_ hb); replace HB := am_ (below_step u5_ hb); clear hb; refine hK.out _ _ ⟨(blk_cell BK.out 0).trans rfl, (blk_cell BK.out 1).trans rfl, (blk_cell BK.out 2).trans rfl⟩ (fun hHeld => ?_); clear hK K; refine norm_ (a' := ?_) ?_ ?_; rotate_left
  ·show Act.put _ (some 77) _ = _
   simp only [Act.put, List.setIfInBounds_toArray, List.set_cons_zero, List.set_cons_succ, i64_w, i32_w]; rfl
  refine pure_ (i := 8) (N := some 2) (v := ?_) (a' := ?_) (bm_ 9 511) rfl rfl (any_of HT_.out u10_) (fun _ _ _ h => h) (Or.inl ⟨u32_, ?_⟩) ?_ ?_; rotate_left
  ·exact u6_
  rotate_left
  ·exact u0_
  refine done_ (done_of HT_.out u10_) ?_; try go_wp2
  go_ret
  exact ⟨rfl, HB.out⟩
def impl_IndexOk.f (k : Nat) (a0 : List (S79)) (a1 : List (S59)) (a2 : List (S62)) (a3 : Int) : Option Bool := match a1, a2 with
 | [], [] => if a3 = 0 then ((impl_FieldsOk.f k a0).bind fun t => if t = true then some true else none) else none
 | _, _ => none
theorem impl_IndexOk.mono : ∀ a0 a1 a2 a3 k, LeO (impl_IndexOk.f k a0 a1 a2 a3) (impl_IndexOk.f (k + 1) a0 a1 a2 a3) := by
 intro a0 a1 a2 a3 k; cases a1 with
 | cons x l => exact LeO.none _
 | nil =>
  cases a2 with
  | cons x l => exact LeO.none _
  | nil =>
   unfold impl_IndexOk.f
   exact LeO.ite (LeO.bind (impl_FieldsOk.mono _ _) (fun _ => LeO.refl _)) (LeO.none _)
theorem impl_IndexOk.calls (k : Nat) (A0_0 : Option Addr) (c0_0 : Nat) (l0_0 : List (S79)) (A0_1 : Option Addr) (c0_1 : Nat) (l0_1 : List (S59)) (A0_2 : Option Addr) (c0_2 : Nat) (l0_2 : List (S62)) (a0_3 : Int) (r : Bool) (w : World) (hr0_0 : Kd.C k79 w A0_0 l0_0.length l0_0) (hc0_0 : l0_0.length ≤ c0_0) (hr0_1 : Kd.C k59 w A0_1 l0_1.length l0_1) (hc0_1 : l0_1.length ≤ c0_1) (hr0_2 : Kd.C k62 w A0_2 l0_2.length l0_2) (hc0_2 : l0_2.length ≤ c0_2) (h : impl_IndexOk.f k l0_0 l0_1 l0_2 a0_3 = some r) :
  Calls Tryz.prog 9 #[.agg #[.slice A0_0 l0_0.length c0_0, .slice A0_1 l0_1.length c0_1, .slice A0_2 l0_2.length c0_2, .int .i64 a0_3]] w fun e w' => e = .returned (.bool r) ∧ Below w.heap.size w w' := by
 cases l0_1 with
 | cons x l => exact absurd h (by simp [impl_IndexOk.f])
 | nil =>
  cases l0_2 with
  | cons x l => exact absurd h (by simp [impl_IndexOk.f])
  | nil =>
   unfold impl_IndexOk.f at h
   by_cases h3 : a0_3 = 0
   case neg => rw [if_neg h3] at h; exact absurd h u65_
   rw [if_pos h3] at h; subst h3; cases hf : impl_FieldsOk.f k l0_0 with
   | none => rw [hf] at h; exact absurd h u65_
   | some t =>
    rw [hf] at h; cases t with
    | false => exact absurd h u65_
    | true =>
     have h := Option.some.inj h; subst h; exact indexOk0 k A0_0 c0_0 l0_0 A0_1 A0_2 c0_1 c0_2 w hr0_0 hc0_0 hf

/-! ### laws_FnIndexNew: function 3 -/
def laws_FnIndexNew.j0 : Nat → Bool → Bool → Bool → List (S79) → List (S59) → List (S62) → Int → List (S79) → List (S59) → List (S62) → Int → Option (Bool)
 | 0, _, _, _, _, _, _, _, _, _, _, _ => none
 | k + 1, x5, x7, x35, x256000, x256001, x256002, x256003, x268000, x268001, x268002, x268003 => if x35 = true then (if (x5 == x7) = true then ((laws_sdIndex.f k x256000 x256001 x256002 x256003 x268000 x268001 x268002 x268003).bind fun t269 => (some t269)) else (some false)) else ((impl_IndexOk.f k x256000 x256001 x256002 x256003).bind fun t270 => (if t270 = true then (some ((wrap64 ((wrap64 ((x256001.length : Int) + (x256002.length : Int))) + x256003)) == 0)) else (some false)))
def laws_FnIndexNew.f (k : Nat) (l0 : List Int) : Option (Bool) := if (l0.length : Int) > 1048576 then (some true) else ((spec_DrawIndexNew.f k l0).bind fun t241 => ((impl_IndexNew.f k t241).bind fun bt244 => ((spec_IndexNew.f k t241).bind fun bt256 => (if (bt244.2.2.2.2 != bt256.2.2.2.2) = true then (laws_FnIndexNew.j0 k bt244.2.2.2.2 bt256.2.2.2.2 true bt244.1 bt244.2.1 bt244.2.2.1 bt244.2.2.2.1 bt256.1 bt256.2.1 bt256.2.2.1 bt256.2.2.2.1) else ((laws_sdIndex.f k bt244.1 bt244.2.1 bt244.2.2.1 bt244.2.2.2.1 bt256.1 bt256.2.1 bt256.2.2.1 bt256.2.2.2.1).bind fun t268 => (if t268 = true then (laws_FnIndexNew.j0 k bt244.2.2.2.2 bt256.2.2.2.2 (!bt244.2.2.2.2) bt244.1 bt244.2.1 bt244.2.2.1 bt244.2.2.2.1 bt256.1 bt256.2.1 bt256.2.2.1 bt256.2.2.2.1) else (laws_FnIndexNew.j0 k bt244.2.2.2.2 bt256.2.2.2.2 true bt244.1 bt244.2.1 bt244.2.2.1 bt244.2.2.2.1 bt256.1 bt256.2.1 bt256.2.2.1 bt256.2.2.2.1)))))))
theorem laws_FnIndexNew.mono_l : ∀ k, (∀ y0 y1 y2 y3 y4 y5 y6 y7 y8 y9 y10, LeO (laws_FnIndexNew.j0 k y0 y1 y2 y3 y4 y5 y6 y7 y8 y9 y10) (laws_FnIndexNew.j0 (k + 1) y0 y1 y2 y3 y4 y5 y6 y7 y8 y9 y10))
 | 0 => fun _ _ _ _ _ _ _ _ _ _ _ r h => by simp [laws_FnIndexNew.j0] at h
 | k + 1 => by
  have ih0 := laws_FnIndexNew.mono_l k
  ·intro y0 y1 y2 y3 y4 y5 y6 y7 y8 y9 y10; unfold laws_FnIndexNew.j0
   repeat' first
   | (with_reducible exact ih0 _ _ _ _ _ _ _ _ _ _ _)
   | (with_reducible exact impl_IndexNew.mono _ _)
   | (with_reducible exact impl_IndexOk.mono _ _ _ _ _)
   | (with_reducible exact laws_sdIndex.mono _ _ _ _ _ _ _ _ _)
   | (with_reducible exact spec_DrawIndexNew.mono _ _)
   | (with_reducible exact spec_IndexNew.mono _ _)
   | (with_reducible exact LeO.refl _)
   | (with_reducible exact LeO.none _)
   | (with_reducible refine LeO.ite ?_ ?_)
   | (with_reducible refine LeO.bind ?_ (fun _ => ?_))
   | exact ih0 _ _ _ _ _ _ _ _ _ _ _
   | exact impl_IndexNew.mono _ _
   | exact impl_IndexOk.mono _ _ _ _ _
   | exact laws_sdIndex.mono _ _ _ _ _ _ _ _ _
   | exact spec_DrawIndexNew.mono _ _
   | exact spec_IndexNew.mono _ _
   | exact LeO.none _
   | refine LeO.ite ?_ ?_
   | refine LeO.bind ?_ (fun _ => ?_)
theorem laws_FnIndexNew.mono : ∀ a0 k, LeO (laws_FnIndexNew.f k a0) (laws_FnIndexNew.f (k + 1) a0) := by
 intro a0 k; have ih0 := laws_FnIndexNew.mono_l k; unfold laws_FnIndexNew.f
 repeat' first
   | (with_reducible exact ih0 _ _ _ _ _ _ _ _ _ _ _)
   | (with_reducible exact impl_IndexNew.mono _ _)
   | (with_reducible exact impl_IndexOk.mono _ _ _ _ _)
   | (with_reducible exact laws_sdIndex.mono _ _ _ _ _ _ _ _ _)
   | (with_reducible exact spec_DrawIndexNew.mono _ _)
   | (with_reducible exact spec_IndexNew.mono _ _)
   | (with_reducible exact LeO.refl _)
   | (with_reducible exact LeO.none _)
   | (with_reducible refine LeO.ite ?_ ?_)
   | (with_reducible refine LeO.bind ?_ (fun _ => ?_))
   | exact ih0 _ _ _ _ _ _ _ _ _ _ _
   | exact impl_IndexNew.mono _ _
   | exact impl_IndexOk.mono _ _ _ _ _
   | exact laws_sdIndex.mono _ _ _ _ _ _ _ _ _
   | exact spec_DrawIndexNew.mono _ _
   | exact spec_IndexNew.mono _ _
   | exact LeO.none _
   | refine LeO.ite ?_ ?_
   | refine LeO.bind ?_ (fun _ => ?_)
set_option maxHeartbeats 8000000 in
set_option maxRecDepth 100000 in
theorem laws_FnIndexNew.calls (k : Nat) (A0 : Option Addr) (c0 : Nat) (l0 : List Int) (r : Bool) (w : World) (hr0 : Kd.C (Kd.int .u8) w A0 l0.length l0) (hc0 : l0.length ≤ c0) (h : laws_FnIndexNew.f k l0 = some r) :
  Calls Tryz.prog 3 #[.slice A0 l0.length c0] w fun e w' => e = .returned (.bool r) ∧ Below w.heap.size w w' := by
 have hu28 := Tryz.underlying28; have HR0 := am_ hr0; have HC0 := am_ hc0; clear hr0 hc0; have HB := am_ (Below.refl w.heap.size w); have H : (if (l0.length : Int) > 1048576 then (some true) else ((spec_DrawIndexNew.f k l0).bind fun t241 => ((impl_IndexNew.f k t241).bind fun bt244 => ((spec_IndexNew.f k t241).bind fun bt256 => (if (bt244.2.2.2.2 != bt256.2.2.2.2) = true then (laws_FnIndexNew.j0 k bt244.2.2.2.2 bt256.2.2.2.2 true bt244.1 bt244.2.1 bt244.2.2.1 bt244.2.2.2.1 bt256.1 bt256.2.1 bt256.2.2.1 bt256.2.2.2.1) else ((laws_sdIndex.f k bt244.1 bt244.2.1 bt244.2.2.1 bt244.2.2.2.1 bt256.1 bt256.2.1 bt256.2.2.1 bt256.2.2.2.1).bind fun t268 => (if t268 = true then (laws_FnIndexNew.j0 k bt244.2.2.2.2 bt256.2.2.2.2 (!bt244.2.2.2.2) bt244.1 bt244.2.1 bt244.2.2.1 bt244.2.2.2.1 bt256.1 bt256.2.1 bt256.2.2.1 bt256.2.2.2.1) else (laws_FnIndexNew.j0 k bt244.2.2.2.2 bt256.2.2.2.2 true bt244.1 bt244.2.1 bt244.2.2.1 bt244.2.2.2.1 bt256.1 bt256.2.1 bt256.2.2.1 bt256.2.2.2.1)))))))) = some r := h; clear h; by_cases c2 : (l0.length : Int) > 1048576
 ·rw [if_pos c2] at H; have c2b0 : decide (1048576 < (l0.length : Int)) = true := decide_eq_true c2; have c2b1 : decide (1048576 < l0.length) = true := decide_eq_true u81_; clear c2; obtain rfl := Option.some.inj H; go_enter Tryz.func3, Tryz.ntmps3
  go_wp2; go_ret
  exact ⟨u8_, u5_⟩
 ·rw [if_neg c2] at H; have c2b0 : decide (1048576 < (l0.length : Int)) = false := decide_eq_false c2; have c2b1 : decide (1048576 < l0.length) = false := decide_eq_false u81_; clear c2; replace H := Option.bind_eq_some_iff.mp H; obtain ⟨t241, A30, H⟩ := H; replace H : ((impl_IndexNew.f k t241).bind fun bt244 => ((spec_IndexNew.f k t241).bind fun bt256 => (if (bt244.2.2.2.2 != bt256.2.2.2.2) = true then (laws_FnIndexNew.j0 k bt244.2.2.2.2 bt256.2.2.2.2 true bt244.1 bt244.2.1 bt244.2.2.1 bt244.2.2.2.1 bt256.1 bt256.2.1 bt256.2.2.1 bt256.2.2.2.1) else ((laws_sdIndex.f k bt244.1 bt244.2.1 bt244.2.2.1 bt244.2.2.2.1 bt256.1 bt256.2.1 bt256.2.2.1 bt256.2.2.2.1).bind fun t268 => (if t268 = true then (laws_FnIndexNew.j0 k bt244.2.2.2.2 bt256.2.2.2.2 (!bt244.2.2.2.2) bt244.1 bt244.2.1 bt244.2.2.1 bt244.2.2.2.1 bt256.1 bt256.2.1 bt256.2.2.1 bt256.2.2.2.1) else (laws_FnIndexNew.j0 k bt244.2.2.2.2 bt256.2.2.2.2 true bt244.1 bt244.2.1 bt244.2.2.1 bt244.2.2.2.1 bt256.1 bt256.2.1 bt256.2.2.1 bt256.2.2.2.1)))))) = some r := H; have A3 := am_ A30; clear A30; replace H := Option.bind_eq_some_iff.mp H; obtain ⟨⟨t244, t247, t250, t253, t254⟩, A40, H⟩ := H; replace H : ((spec_IndexNew.f k t241).bind fun bt256 => (if (t254 != bt256.2.2.2.2) = true then (laws_FnIndexNew.j0 k t254 bt256.2.2.2.2 true t244 t247 t250 t253 bt256.1 bt256.2.1 bt256.2.2.1 bt256.2.2.2.1) else ((laws_sdIndex.f k t244 t247 t250 t253 bt256.1 bt256.2.1 bt256.2.2.1 bt256.2.2.2.1).bind fun t268 => (if t268 = true then (laws_FnIndexNew.j0 k t254 bt256.2.2.2.2 (!t254) t244 t247 t250 t253 bt256.1 bt256.2.1 bt256.2.2.1 bt256.2.2.2.1) else (laws_FnIndexNew.j0 k t254 bt256.2.2.2.2 true t244 t247 t250 t253 bt256.1 bt256.2.1 bt256.2.2.1 bt256.2.2.2.1))))) = some r := H; have A4 := am_ A40; clear A40; replace H := Option.bind_eq_some_iff.mp H; obtain ⟨⟨t256, t259, t262, t265, t266⟩, A50, H⟩ := H; replace H : (if (t254 != t266) = true then (laws_FnIndexNew.j0 k t254 t266 true t244 t247 t250 t253 t256 t259 t262 t265) else ((laws_sdIndex.f k t244 t247 t250 t253 t256 t259 t262 t265).bind fun t268 => (if t268 = true then (laws_FnIndexNew.j0 k t254 t266 (!t254) t244 t247 t250 t253 t256 t259 t262 t265) else (laws_FnIndexNew.j0 k t254 t266 true t244 t247 t250 t253 t256 t259 t262 t265)))) = some r := H; have A5 := am_ A50; clear A50; have HC6 := am_ H; clear H; go_enter Tryz.func3, Tryz.ntmps3
  go_upto_region 6 with (first | ((with_reducible refine gate_callee (f := 5) rfl ?_); refine goesL_ (some 12) rfl rfl Tryz.func5 u10_ rfl #[.slice A0 l0.length c0] rfl u3_ ?_; (with_reducible refine (spec_DrawIndexNew.calls k _ _ l0 t241 _ ?side1 ?side2 A3.out).mono ?_); (case side1 => exact u80_); (case side2 => exact HC0.out); rintro e w7 ⟨v242, rfl, ho0, hb⟩; refine ⟨_, rfl, ?_⟩; have HO243 := am_ (Kd.R_lower ho0 (below_size u5_)); replace HB := am_ (below_step u5_ hb); (try clear hb); (try clear hb2); (try clear hk); (try clear hi); (try clear ho0); obtain ⟨Ao8, co8, eo8⟩ := Kd.R_slice HO243.out; subst eo8) | ((with_reducible refine gate_callee (f := 6) rfl ?_); refine goesL_ (some 15) rfl rfl Tryz.func6 u10_ rfl #[.slice Ao8 t241.length co8] rfl u3_ ?_; (with_reducible refine (impl_IndexNew.calls k _ _ t241 t244 t247 t250 t253 t254 _ ?side1 ?side2 A4.out).mono ?_); (case side1 => repeat (first | exact (Kd.R_reads' HO243.out).2.2 | (with_reducible refine Kd.C_alloc ?_ _) | (with_reducible refine Kd.C_drewN ?_ _) | (with_reducible refine Kd.C_drew ?_))); (case side2 => exact (Kd.R_reads' HO243.out).2.1); rintro e w9 ⟨v245, v248, v251, rfl, ho0, ho1, ho2, hb⟩; refine ⟨_, rfl, ?_⟩; have HO246 := am_ (Kd.R_lower (Kd.R_new' ho0 (Kd.R_lt u63_)) (below_size u5_)); replace HO243 := am_ (Kd.R_elder' u63_ (Kd.R_base ho0) hb); have HO249 := am_ (Kd.S_lower ho1 (below_size u5_)); have HO252 := am_ (Kd.R_lower ho2 (below_size u5_)); replace HB := am_ (below_step u5_ hb); (try clear hb); (try clear hb2); (try clear hk); (try clear hi); (try clear ho0); (try clear ho1); (try clear ho2)) | ((with_reducible refine gate_dst (N := 4) rfl ?_); (try (refine gate_guard u32_ ?_; dsimp only)); refine box_event ?hg (N := 4) ?hd (cs := #[.slice none 0 0, .slice none 0 0, .slice none 0 0, .int .i64 0]) (t := 28) ?hr ?_; (case hd => rfl); (case hg => rfl); (case hr => exact u30_); intro gb255 hg w10 hbox hb; replace HO243 := am_ (Kd.R_below u63_ hb); replace HO246 := am_ (Kd.R_below u94_ hb); replace HO249 := am_ (Kd.S_below u95_ hb); replace HO252 := am_ (Kd.R_below u96_ hb); have BK255 := am_ (hbox); have GW255 := am_ ((by rw [hg]; exact (below_size u5_) : w.heap.size ≤ gb255)); have GE255 := GW255; replace HB := am_ (below_step u5_ hb); clear hb hbox hg; obtain ⟨Ao11, co11, eo11⟩ := Kd.R_slice HO246.out; subst eo11; have hcz12_0 : w10.cell? ⟨gb255, 0, none⟩ = some (.slice none 0 0) := (blk_cell BK255.out 0).trans rfl; have hcz12_1 : w10.cell? ⟨gb255, 1, none⟩ = some (.slice none 0 0) := (blk_cell BK255.out 1).trans rfl; have hcz12_2 : w10.cell? ⟨gb255, 2, none⟩ = some (.slice none 0 0) := (blk_cell BK255.out 2).trans rfl; have hcz12_3 : w10.cell? ⟨gb255, 3, none⟩ = some (.int .i64 0) := (blk_cell BK255.out 3).trans rfl; have hfz12_0 := blk_frozen BK255.out 0; have hfz12_1 := blk_frozen BK255.out 1; have hfz12_2 := blk_frozen BK255.out 2; have hfz12_3 := blk_frozen BK255.out 3; obtain ⟨Ao13, co13, eo13⟩ := Kd.S_slice HO249.out; subst eo13; obtain ⟨Ao14, co14, eo14⟩ := Kd.R_slice HO252.out; subst eo14) | ((with_reducible refine gate_callee (f := 7) rfl ?_); refine goesL_ (some 20) rfl rfl Tryz.func7 u10_ rfl #[.slice Ao8 t241.length co8] rfl u3_ ?_; (with_reducible refine (spec_IndexNew.calls k _ _ t241 t256 t259 t262 t265 t266 _ ?side1 ?side2 A5.out).mono ?_); (case side1 => refine (Kd.R_reads' (e := 79) (base := w.heap.size) (ok := fun k_ => (True ∧ some k_ ≠ (.slice Ao11 t244.length co11 : Value).ownBlock)) (n := t241.length) (c := co8) ?_).2.2; exact u104_); (case side2 => exact (Kd.R_reads' HO243.out).2.1); rintro e w15 ⟨v257, v260, v263, rfl, ho0, ho1, ho2, hb⟩; refine ⟨_, rfl, ?_⟩; have HO258 := am_ (Kd.R_lower (Kd.R_new' (Kd.R_new' ho0 (Kd.R_lt u104_)) (Kd.R_lt u105_)) (below_size u35_)); replace HO243 := am_ (Kd.R_elder' u104_ (Kd.R_base ho0) hb); replace HO246 := am_ (Kd.R_elder' u105_ (Kd.R_base ho0) hb); have HO261 := am_ (Kd.S_lower (Kd.S_new' ho1 (Kd.S_lt u106_)) (below_size u35_)); replace HO249 := am_ (Kd.S_elder' u106_ (Kd.S_base ho1) hb); have HO264 := am_ (Kd.R_lower (Kd.R_new' ho2 (Kd.R_lt u107_)) (below_size u35_)); replace HO252 := am_ (Kd.R_elder' u107_ (Kd.R_base ho2) hb); replace BK255 := am_ (blk_below (g := gb255) (o := .cells #[.slice Ao11 t244.length co11, .slice Ao13 t247.length co13, .slice Ao14 t250.length co14, .int .i64 t253] 28 (0, 0)) (by (with_reducible repeat (first | refine blk_drewN ?_ _ | refine blk_drew ?_ | refine blk_alloc ?_ _)); refine blk_put (cs := #[.slice Ao11 t244.length co11, .slice Ao13 t247.length co13, .slice Ao14 t250.length co14, .int .i64 0]) ?_ 3 _ rfl; (with_reducible repeat (first | refine blk_drewN ?_ _ | refine blk_drew ?_ | refine blk_alloc ?_ _)); refine blk_put (cs := #[.slice Ao11 t244.length co11, .slice Ao13 t247.length co13, .slice none 0 0, .int .i64 0]) ?_ 2 _ rfl; (with_reducible repeat (first | refine blk_drewN ?_ _ | refine blk_drew ?_ | refine blk_alloc ?_ _)); refine blk_put (cs := #[.slice Ao11 t244.length co11, .slice none 0 0, .slice none 0 0, .int .i64 0]) ?_ 1 _ rfl; (with_reducible repeat (first | refine blk_drewN ?_ _ | refine blk_drew ?_ | refine blk_alloc ?_ _)); refine blk_put (cs := #[.slice none 0 0, .slice none 0 0, .slice none 0 0, .int .i64 0]) ?_ 0 _ rfl; (with_reducible repeat (first | refine blk_drewN ?_ _ | refine blk_drew ?_ | refine blk_alloc ?_ _)); exact BK255.out) hb); replace HB := am_ (below_step u35_ hb); (try clear hb); (try clear hb2); (try clear hk); (try clear hi); (try clear ho0); (try clear ho1); (try clear ho2)) | ((with_reducible refine gate_dst (N := 6) rfl ?_); (try (refine gate_guard u32_ ?_; dsimp only)); refine box_event ?hg (N := 6) ?hd (cs := #[.slice none 0 0, .slice none 0 0, .slice none 0 0, .int .i64 0]) (t := 28) ?hr ?_; (case hd => rfl); (case hg => rfl); (case hr => exact u30_); intro gb267 hg w16 hbox hb; replace HO243 := am_ (Kd.R_below u63_ hb); replace HO246 := am_ (Kd.R_below u94_ hb); replace HO249 := am_ (Kd.S_below u95_ hb); replace HO252 := am_ (Kd.R_below u96_ hb); replace HO258 := am_ (Kd.R_below (by (with_reducible repeat (first | apply Kd.R_alloc | apply Kd.R_drewN | apply Kd.R_drew)); exact HO258.out) hb); replace HO261 := am_ (Kd.S_below (by (with_reducible repeat (first | apply Kd.S_alloc | apply Kd.S_drewN | apply Kd.S_drew)); exact HO261.out) hb); replace HO264 := am_ (Kd.R_below (by (with_reducible repeat (first | apply Kd.R_alloc | apply Kd.R_drewN | apply Kd.R_drew)); exact HO264.out) hb); have BK267 := am_ (hbox); have GW267 := am_ ((by rw [hg]; exact (below_size u35_) : w.heap.size ≤ gb267)); have GE267 := GW267; replace HB := am_ (below_step u35_ hb); have NB255_267 := am_ ((by rw [hg]; exact Nat.ne_of_lt (blk_lt (g := gb255) (o := .cells #[.slice Ao11 t244.length co11, .slice Ao13 t247.length co13, .slice Ao14 t250.length co14, .int .i64 t253] 28 (0, 0)) u36_) : gb255 ≠ gb267)); have NB267_255 := am_ ((by rw [hg]; exact Nat.ne_of_gt (blk_lt (g := gb255) (o := .cells #[.slice Ao11 t244.length co11, .slice Ao13 t247.length co13, .slice Ao14 t250.length co14, .int .i64 t253] 28 (0, 0)) u36_) : gb267 ≠ gb255)); replace BK255 := am_ (blk_below (g := gb255) (o := .cells #[.slice Ao11 t244.length co11, .slice Ao13 t247.length co13, .slice Ao14 t250.length co14, .int .i64 t253] 28 (0, 0)) u36_ hb); clear hb hbox hg; obtain ⟨Ao17, co17, eo17⟩ := Kd.R_slice HO258.out; subst eo17; have hnb18 := NB267_255.out; have hnc18 := NB255_267.out; have hcz19_0 : w16.cell? ⟨gb267, 0, none⟩ = some (.slice none 0 0) := (blk_cell BK267.out 0).trans rfl; have hcz19_1 : w16.cell? ⟨gb267, 1, none⟩ = some (.slice none 0 0) := (blk_cell BK267.out 1).trans rfl; have hcz19_2 : w16.cell? ⟨gb267, 2, none⟩ = some (.slice none 0 0) := (blk_cell BK267.out 2).trans rfl; have hcz19_3 : w16.cell? ⟨gb267, 3, none⟩ = some (.int .i64 0) := (blk_cell BK267.out 3).trans rfl; have hfz19_0 := blk_frozen BK267.out 0; have hfz19_1 := blk_frozen BK267.out 1; have hfz19_2 := blk_frozen BK267.out 2; have hfz19_3 := blk_frozen BK267.out 3; obtain ⟨Ao20, co20, eo20⟩ := Kd.S_slice HO261.out; subst eo20; obtain ⟨Ao21, co21, eo21⟩ := Kd.R_slice HO264.out; subst eo21))
  (try simp only [Act.put, List.setIfInBounds_toArray, List.set_cons_zero, List.set_cons_succ])
  go_cut [35] (fun v35 wc => ∃ (kq : Nat) (x35_5 : Bool), v35 = .bool x35_5 ∧ Aside0 (laws_FnIndexNew.j0 kq t254 t266 x35_5 t244 t247 t250 t253 t256 t259 t262 t265 = some r) ∧ Aside0 (kq ≤ k) ∧ Aside0 (Kd.R k79 79 wc w.heap.size (fun k_ => some k_ ≠ ((.slice Ao17 t256.length co17) : Value).ownBlock) (.slice Ao11 t244.length co11) t244) ∧ Aside0 (Kd.S k59 59 wc w.heap.size (fun k_ => some k_ ≠ ((.slice Ao20 t259.length co20) : Value).ownBlock) (.slice Ao13 t247.length co13) t247) ∧ Aside0 (Kd.R k62 62 wc w.heap.size (fun k_ => some k_ ≠ ((.slice Ao21 t262.length co21) : Value).ownBlock) (.slice Ao14 t250.length co14) t250) ∧ Aside0 (Kd.R k79 79 wc w.heap.size (fun k_ => some k_ ≠ ((.slice Ao11 t244.length co11) : Value).ownBlock) (.slice Ao17 t256.length co17) t256) ∧ Aside0 (Kd.S k59 59 wc w.heap.size (fun k_ => some k_ ≠ ((.slice Ao13 t247.length co13) : Value).ownBlock) (.slice Ao20 t259.length co20) t259) ∧ Aside0 (Kd.R k62 62 wc w.heap.size (fun k_ => some k_ ≠ ((.slice Ao14 t250.length co14) : Value).ownBlock) (.slice Ao21 t262.length co21) t262) ∧ Aside0 (wc.heap[gb255]? = some (.cells #[(.slice Ao11 t244.length co11), (.slice Ao13 t247.length co13), (.slice Ao14 t250.length co14), .int .i64 t253] 28 (0, 0))) ∧ Aside0 (wc.heap[gb267]? = some (.cells #[(.slice Ao17 t256.length co17), (.slice Ao20 t259.length co20), (.slice Ao21 t262.length co21), .int .i64 t265] 28 (0, 0))) ∧ Aside0 (Below w.heap.size w wc))
  case first =>
   have H := HC6.out; clear HC6; by_cases c22 : (t254 != t266) = true
   ·rw [if_pos c22] at H; have c22b0 : (t254 != t266) = true := c22; (try (have c22b1 : decide (t254 = t266) = false := by simpa using c22))
    (try (have c22b2 : (t254 == t266) = false := by simpa using c22))
    (try (have c22b3 : ¬ (t254 = t266) := by simpa using c22))
    clear c22; (first | rw [c22b0] | (simp only [i64_w, i32_w]; rw [c22b0]) | skip)
    have H' := am_ H; clear H; go_wp2; go_meet
    case rel => exact ⟨_, (true), u20_, H', ⟨u56_⟩, ⟨by (with_reducible repeat (first | apply Kd.R_alloc | apply Kd.R_drewN | apply Kd.R_drew)); exact Kd.R_mono (Kd.R_far (p := ⟨gb267, 3, none⟩) (Kd.R_far (p := ⟨gb267, 2, none⟩) (Kd.R_far (p := ⟨gb267, 1, none⟩) (Kd.R_far (p := ⟨gb267, 0, none⟩) (Kd.R_types HO246.out BK267.out u44_) (fun _ hk => hk.2) (.slice Ao17 t256.length co17)) (fun _ hk => hk.2) (.slice Ao20 t259.length co20)) (fun _ hk => hk.2) (.slice Ao21 t262.length co21)) (fun _ hk => hk.2) (.int .i64 t265)) (fun _ hk => hk.1.2)⟩, ⟨by (with_reducible repeat (first | apply Kd.S_alloc | apply Kd.S_drewN | apply Kd.S_drew)); exact Kd.S_mono (Kd.S_far (p := ⟨gb267, 3, none⟩) (Kd.S_far (p := ⟨gb267, 2, none⟩) (Kd.S_far (p := ⟨gb267, 1, none⟩) (Kd.S_far (p := ⟨gb267, 0, none⟩) (Kd.S_types HO249.out BK267.out u44_) (fun _ hk => hk.2) (.slice Ao17 t256.length co17)) (fun _ hk => hk.2) (.slice Ao20 t259.length co20)) (fun _ hk => hk.2) (.slice Ao21 t262.length co21)) (fun _ hk => hk.2) (.int .i64 t265)) (fun _ hk => hk.1.2)⟩, ⟨by (with_reducible repeat (first | apply Kd.R_alloc | apply Kd.R_drewN | apply Kd.R_drew)); exact Kd.R_mono (Kd.R_far (p := ⟨gb267, 3, none⟩) (Kd.R_far (p := ⟨gb267, 2, none⟩) (Kd.R_far (p := ⟨gb267, 1, none⟩) (Kd.R_far (p := ⟨gb267, 0, none⟩) (Kd.R_types HO252.out BK267.out u44_) (fun _ hk => hk.2) (.slice Ao17 t256.length co17)) (fun _ hk => hk.2) (.slice Ao20 t259.length co20)) (fun _ hk => hk.2) (.slice Ao21 t262.length co21)) (fun _ hk => hk.2) (.int .i64 t265)) (fun _ hk => hk.1.2)⟩, ⟨by (with_reducible repeat (first | apply Kd.R_alloc | apply Kd.R_drewN | apply Kd.R_drew)); exact Kd.R_mono (Kd.R_far (p := ⟨gb267, 3, none⟩) (Kd.R_far (p := ⟨gb267, 2, none⟩) (Kd.R_far (p := ⟨gb267, 1, none⟩) (Kd.R_far (p := ⟨gb267, 0, none⟩) (Kd.R_types HO258.out BK267.out u44_) (fun _ hk => hk.2) (.slice Ao17 t256.length co17)) (fun _ hk => hk.2) (.slice Ao20 t259.length co20)) (fun _ hk => hk.2) (.slice Ao21 t262.length co21)) (fun _ hk => hk.2) (.int .i64 t265)) (fun _ hk => hk.1.2)⟩, ⟨by (with_reducible repeat (first | apply Kd.S_alloc | apply Kd.S_drewN | apply Kd.S_drew)); exact Kd.S_mono (Kd.S_far (p := ⟨gb267, 3, none⟩) (Kd.S_far (p := ⟨gb267, 2, none⟩) (Kd.S_far (p := ⟨gb267, 1, none⟩) (Kd.S_far (p := ⟨gb267, 0, none⟩) (Kd.S_types HO261.out BK267.out u44_) (fun _ hk => hk.2) (.slice Ao17 t256.length co17)) (fun _ hk => hk.2) (.slice Ao20 t259.length co20)) (fun _ hk => hk.2) (.slice Ao21 t262.length co21)) (fun _ hk => hk.2) (.int .i64 t265)) (fun _ hk => hk.1.2)⟩, ⟨by (with_reducible repeat (first | apply Kd.R_alloc | apply Kd.R_drewN | apply Kd.R_drew)); exact Kd.R_mono (Kd.R_far (p := ⟨gb267, 3, none⟩) (Kd.R_far (p := ⟨gb267, 2, none⟩) (Kd.R_far (p := ⟨gb267, 1, none⟩) (Kd.R_far (p := ⟨gb267, 0, none⟩) (Kd.R_types HO264.out BK267.out u44_) (fun _ hk => hk.2) (.slice Ao17 t256.length co17)) (fun _ hk => hk.2) (.slice Ao20 t259.length co20)) (fun _ hk => hk.2) (.slice Ao21 t262.length co21)) (fun _ hk => hk.2) (.int .i64 t265)) (fun _ hk => hk.1.2)⟩, ⟨u25_⟩, ⟨u19_⟩, ⟨u17_⟩⟩
   ·rw [if_neg c22] at H; have c22b0 : (t254 != t266) = false := by simpa using c22
    (try (have c22b1 : decide (t254 = t266) = true := by simpa using c22))
    (try (have c22b2 : (t254 == t266) = true := by simpa using c22))
    clear c22; (first | rw [c22b0] | (simp only [i64_w, i32_w]; rw [c22b0]) | skip)
    replace H := Option.bind_eq_some_iff.mp H; obtain ⟨t268, A230, H⟩ := H; replace H : (if t268 = true then (laws_FnIndexNew.j0 k t254 t266 (!t254) t244 t247 t250 t253 t256 t259 t262 t265) else (laws_FnIndexNew.j0 k t254 t266 true t244 t247 t250 t253 t256 t259 t262 t265)) = some r := H; have A23 := am_ A230; clear A230; by_cases c24 : t268 = true
    ·subst c24; rw [if_pos rfl] at H; have H' := am_ H; clear H; have hnb25 := NB255_267.out; have hnc25 := NB267_255.out; have hcz26_0 : w16.cell? ⟨gb255, 0, none⟩ = some (.slice Ao11 t244.length co11) := (blk_cell BK255.out 0).trans rfl; have hcz26_1 : w16.cell? ⟨gb255, 1, none⟩ = some (.slice Ao13 t247.length co13) := (blk_cell BK255.out 1).trans rfl; have hcz26_2 : w16.cell? ⟨gb255, 2, none⟩ = some (.slice Ao14 t250.length co14) := (blk_cell BK255.out 2).trans rfl; have hcz26_3 : w16.cell? ⟨gb255, 3, none⟩ = some (.int .i64 t253) := (blk_cell BK255.out 3).trans rfl; have hfz26_0 := blk_frozen BK255.out 0; have hfz26_1 := blk_frozen BK255.out 1; have hfz26_2 := blk_frozen BK255.out 2; have hfz26_3 := blk_frozen BK255.out 3; have hcz27_0 : w16.cell? ⟨gb267, 0, none⟩ = some (.slice none 0 0) := (blk_cell BK267.out 0).trans rfl; have hcz27_1 : w16.cell? ⟨gb267, 1, none⟩ = some (.slice none 0 0) := (blk_cell BK267.out 1).trans rfl; have hcz27_2 : w16.cell? ⟨gb267, 2, none⟩ = some (.slice none 0 0) := (blk_cell BK267.out 2).trans rfl; have hcz27_3 : w16.cell? ⟨gb267, 3, none⟩ = some (.int .i64 0) := (blk_cell BK267.out 3).trans rfl; have hfz27_0 := blk_frozen BK267.out 0; have hfz27_1 := blk_frozen BK267.out 1; have hfz27_2 := blk_frozen BK267.out 2; have hfz27_3 := blk_frozen BK267.out 3; go_wp2_with (first | (go_at_call 8; (with_reducible refine (laws_sdIndex.calls k _ _ t244 _ _ t247 _ _ t250 t253 _ _ t256 _ _ t259 _ _ t262 t265 true _ ?side1 ?side2 ?side3 ?side4 ?side5 ?side6 ?side7 ?side8 ?side9 ?side10 ?side11 ?side12 A23.out).mono ?_); (case side1 => exact u118_); (case side2 => exact (Kd.R_reads' HO246.out).2.1); (case side3 => exact u122_); (case side4 => exact (Kd.S_reads' HO249.out).2.1); (case side5 => exact u119_); (case side6 => exact (Kd.R_reads' HO252.out).2.1); (case side7 => exact u117_); (case side8 => exact (Kd.R_reads' HO258.out).2.1); (case side9 => exact u120_); (case side10 => exact (Kd.S_reads' HO261.out).2.1); (case side11 => exact u121_); (case side12 => exact (Kd.R_reads' HO264.out).2.1); rintro e w28 ⟨rfl, hb⟩; replace HO243 := am_ (Kd.R_below u108_ hb); replace HO246 := am_ (Kd.R_below u98_ hb); replace HO249 := am_ (Kd.S_below u99_ hb); replace HO252 := am_ (Kd.R_below u100_ hb); replace HO258 := am_ (Kd.R_below u101_ hb); replace HO261 := am_ (Kd.S_below u102_ hb); replace HO264 := am_ (Kd.R_below u103_ hb); replace BK255 := am_ (blk_below (g := gb255) (o := .cells #[.slice Ao11 t244.length co11, .slice Ao13 t247.length co13, .slice Ao14 t250.length co14, .int .i64 t253] 28 (0, 0)) u25_ hb); replace BK267 := am_ (blk_below (g := gb267) (o := .cells #[.slice Ao17 t256.length co17, .slice Ao20 t259.length co20, .slice Ao21 t262.length co21, .int .i64 t265] 28 (0, 0)) u19_ hb); replace HB := am_ (below_step u17_ hb); (try clear hb); (try clear hb2); (try clear hk); (try clear hi)))
     go_meet
     case rel => exact ⟨_, (!t254), u20_, H', ⟨u56_⟩, ⟨u83_⟩, ⟨u84_⟩, ⟨u85_⟩, ⟨u86_⟩, ⟨u87_⟩, ⟨u88_⟩, ⟨u36_⟩, ⟨u51_⟩, ⟨u17_⟩⟩
    ·replace c24 := Bool.eq_false_iff.mpr c24; subst c24; rw [if_neg (show ¬ (false = true) by decide)] at H; have H' := am_ H; clear H; have hnb29 := NB255_267.out; have hnc29 := NB267_255.out; have hcz30_0 : w16.cell? ⟨gb255, 0, none⟩ = some (.slice Ao11 t244.length co11) := (blk_cell BK255.out 0).trans rfl; have hcz30_1 : w16.cell? ⟨gb255, 1, none⟩ = some (.slice Ao13 t247.length co13) := (blk_cell BK255.out 1).trans rfl; have hcz30_2 : w16.cell? ⟨gb255, 2, none⟩ = some (.slice Ao14 t250.length co14) := (blk_cell BK255.out 2).trans rfl; have hcz30_3 : w16.cell? ⟨gb255, 3, none⟩ = some (.int .i64 t253) := (blk_cell BK255.out 3).trans rfl; have hfz30_0 := blk_frozen BK255.out 0; have hfz30_1 := blk_frozen BK255.out 1; have hfz30_2 := blk_frozen BK255.out 2; have hfz30_3 := blk_frozen BK255.out 3; have hcz31_0 : w16.cell? ⟨gb267, 0, none⟩ = some (.slice none 0 0) := (blk_cell BK267.out 0).trans rfl; have hcz31_1 : w16.cell? ⟨gb267, 1, none⟩ = some (.slice none 0 0) := (blk_cell BK267.out 1).trans rfl; have hcz31_2 : w16.cell? ⟨gb267, 2, none⟩ = some (.slice none 0 0) := (blk_cell BK267.out 2).trans rfl; have hcz31_3 : w16.cell? ⟨gb267, 3, none⟩ = some (.int .i64 0) := (blk_cell BK267.out 3).trans rfl; have hfz31_0 := blk_frozen BK267.out 0; have hfz31_1 := blk_frozen BK267.out 1; have hfz31_2 := blk_frozen BK267.out 2; have hfz31_3 := blk_frozen BK267.out 3; go_wp2_with (first | (go_at_call 8; (with_reducible refine (laws_sdIndex.calls k _ _ t244 _ _ t247 _ _ t250 t253 _ _ t256 _ _ t259 _ _ t262 t265 false _ ?side1 ?side2 ?side3 ?side4 ?side5 ?side6 ?side7 ?side8 ?side9 ?side10 ?side11 ?side12 A23.out).mono ?_); (case side1 => exact u118_); (case side2 => exact (Kd.R_reads' HO246.out).2.1); (case side3 => exact u122_); (case side4 => exact (Kd.S_reads' HO249.out).2.1); (case side5 => exact u119_); (case side6 => exact (Kd.R_reads' HO252.out).2.1); (case side7 => exact u117_); (case side8 => exact (Kd.R_reads' HO258.out).2.1); (case side9 => exact u120_); (case side10 => exact (Kd.S_reads' HO261.out).2.1); (case side11 => exact u121_); (case side12 => exact (Kd.R_reads' HO264.out).2.1); rintro e w32 ⟨rfl, hb⟩; replace HO243 := am_ (Kd.R_below u108_ hb); replace HO246 := am_ (Kd.R_below u98_ hb); replace HO249 := am_ (Kd.S_below u99_ hb); replace HO252 := am_ (Kd.R_below u100_ hb); replace HO258 := am_ (Kd.R_below u101_ hb); replace HO261 := am_ (Kd.S_below u102_ hb); replace HO264 := am_ (Kd.R_below u103_ hb); replace BK255 := am_ (blk_below (g := gb255) (o := .cells #[.slice Ao11 t244.length co11, .slice Ao13 t247.length co13, .slice Ao14 t250.length co14, .int .i64 t253] 28 (0, 0)) u25_ hb); replace BK267 := am_ (blk_below (g := gb267) (o := .cells #[.slice Ao17 t256.length co17, .slice Ao20 t259.length co20, .slice Ao21 t262.length co21, .int .i64 t265] 28 (0, 0)) u19_ hb); replace HB := am_ (below_step u17_ hb); (try clear hb); (try clear hb2); (try clear hk); (try clear hi)))
     go_meet
     case rel => exact ⟨_, (true), u20_, H', ⟨u56_⟩, ⟨u83_⟩, ⟨u84_⟩, ⟨u85_⟩, ⟨u86_⟩, ⟨u87_⟩, ⟨u88_⟩, ⟨u36_⟩, ⟨u51_⟩, ⟨u17_⟩⟩
  case rest =>
   clear HC6; try clear c1
   try clear c2
   try clear c2b0
   try clear c2b1
   try clear p2
   try clear c3
   try clear c5
   try clear c6
   try clear c7
   try clear c18
   try clear c22
   try clear c22b0
   try clear c22b1
   try clear c22b2
   try clear c24
   try clear c25
   try clear c29
   try clear hcz12_0
   try clear hcz12_1
   try clear hcz12_2
   try clear hcz12_3
   try clear hcz19_0
   try clear hcz19_1
   try clear hcz19_2
   try clear hcz19_3
   try clear hcz26_0
   try clear hcz26_1
   try clear hcz26_2
   try clear hcz26_3
   try clear hcz27_0
   try clear hcz27_1
   try clear hcz27_2
   try clear hcz27_3
   try clear hcz30_0
   try clear hcz30_1
   try clear hcz30_2
   try clear hcz30_3
   try clear hcz31_0
   try clear hcz31_1
   try clear hcz31_2
   try clear hcz31_3
   try clear hfz12_0
   try clear hfz12_1
   try clear hfz12_2
   try clear hfz12_3
   try clear hfz19_0
   try clear hfz19_1
   try clear hfz19_2
   try clear hfz19_3
   try clear hfz26_0
   try clear hfz26_1
   try clear hfz26_2
   try clear hfz26_3
   try clear hfz27_0
   try clear hfz27_1
   try clear hfz27_2
   try clear hfz27_3
   try clear hfz30_0
   try clear hfz30_1
   try clear hfz30_2
   try clear hfz30_3
   try clear hfz31_0
   try clear hfz31_1
   try clear hfz31_2
   try clear hfz31_3
   obtain ⟨kq, x35_5, rfl, HA, HJ5, HO_256000, HO_256001, HO_256002, HO_268000, HO_268001, HO_268002, BK255, BK267, HB⟩ := hcut; cases kq with
   | zero => exact absurd HA.out (by simp [laws_FnIndexNew.j0])
   | succ kj5 =>
    have H := HA.out; clear HA; simp only [laws_FnIndexNew.j0] at H; by_cases c33 : x35_5 = true
    ·subst c33; rw [if_pos rfl] at H; by_cases c34 : (t254 == t266) = true
     ·rw [if_pos c34] at H; have c34b0 : (t254 == t266) = true := c34; (try (have c34b1 : decide (t254 = t266) = true := by simpa using c34))
      (try (have c34b2 : (t254 == t266) = true := by simpa using c34))
      clear c34; replace H := Option.bind_eq_some_iff.mp H; obtain ⟨t269, A350, H⟩ := H; replace H : (some t269) = some r := H; have A35 := am_ A350; clear A350; obtain rfl := Option.some.inj H; have hnb36 := NB255_267.out; have hnc36 := NB267_255.out; have hcz37_0 : wc.cell? ⟨gb255, 0, none⟩ = some (.slice Ao11 t244.length co11) := (blk_cell BK255.out 0).trans rfl; have hcz37_1 : wc.cell? ⟨gb255, 1, none⟩ = some (.slice Ao13 t247.length co13) := (blk_cell BK255.out 1).trans rfl; have hcz37_2 : wc.cell? ⟨gb255, 2, none⟩ = some (.slice Ao14 t250.length co14) := (blk_cell BK255.out 2).trans rfl; have hcz37_3 : wc.cell? ⟨gb255, 3, none⟩ = some (.int .i64 t253) := (blk_cell BK255.out 3).trans rfl; have hfz37_0 := blk_frozen BK255.out 0; have hfz37_1 := blk_frozen BK255.out 1; have hfz37_2 := blk_frozen BK255.out 2; have hfz37_3 := blk_frozen BK255.out 3; have hcz38_0 : wc.cell? ⟨gb267, 0, none⟩ = some (.slice Ao17 t256.length co17) := (blk_cell BK267.out 0).trans rfl; have hcz38_1 : wc.cell? ⟨gb267, 1, none⟩ = some (.slice Ao20 t259.length co20) := (blk_cell BK267.out 1).trans rfl; have hcz38_2 : wc.cell? ⟨gb267, 2, none⟩ = some (.slice Ao21 t262.length co21) := (blk_cell BK267.out 2).trans rfl; have hcz38_3 : wc.cell? ⟨gb267, 3, none⟩ = some (.int .i64 t265) := (blk_cell BK267.out 3).trans rfl; have hfz38_0 := blk_frozen BK267.out 0; have hfz38_1 := blk_frozen BK267.out 1; have hfz38_2 := blk_frozen BK267.out 2; have hfz38_3 := blk_frozen BK267.out 3; go_wp2_with (first | (go_at_call 8; (with_reducible refine (laws_sdIndex.calls kj5 _ _ t244 _ _ t247 _ _ t250 t253 _ _ t256 _ _ t259 _ _ t262 t265 t269 _ ?side1 ?side2 ?side3 ?side4 ?side5 ?side6 ?side7 ?side8 ?side9 ?side10 ?side11 ?side12 A35.out).mono ?_); (case side1 => exact u58_); (case side2 => exact (Kd.R_reads' HO_256000.out).2.1); (case side3 => exact u59_); (case side4 => exact (Kd.S_reads' HO_256001.out).2.1); (case side5 => exact u60_); (case side6 => exact (Kd.R_reads' HO_256002.out).2.1); (case side7 => repeat (first | exact (Kd.R_reads' HO_268000.out).2.2 | (with_reducible refine Kd.C_alloc ?_ _) | (with_reducible refine Kd.C_drewN ?_ _) | (with_reducible refine Kd.C_drew ?_))); (case side8 => exact (Kd.R_reads' HO_268000.out).2.1); (case side9 => repeat (first | exact (Kd.S_reads' HO_268001.out).2.2 | (with_reducible refine Kd.C_alloc ?_ _) | (with_reducible refine Kd.C_drewN ?_ _) | (with_reducible refine Kd.C_drew ?_))); (case side10 => exact (Kd.S_reads' HO_268001.out).2.1); (case side11 => repeat (first | exact (Kd.R_reads' HO_268002.out).2.2 | (with_reducible refine Kd.C_alloc ?_ _) | (with_reducible refine Kd.C_drewN ?_ _) | (with_reducible refine Kd.C_drew ?_))); (case side12 => exact (Kd.R_reads' HO_268002.out).2.1); rintro e w39 ⟨rfl, hb⟩; replace HO_256000 := am_ (Kd.R_below u66_ hb); replace HO_256001 := am_ (Kd.S_below u67_ hb); replace HO_256002 := am_ (Kd.R_below u68_ hb); replace HO_268000 := am_ (Kd.R_below u69_ hb); replace HO_268001 := am_ (Kd.S_below u70_ hb); replace HO_268002 := am_ (Kd.R_below u71_ hb); replace BK255 := am_ (blk_below (g := gb255) (o := .cells #[.slice Ao11 t244.length co11, .slice Ao13 t247.length co13, .slice Ao14 t250.length co14, .int .i64 t253] 28 (0, 0)) u36_ hb); replace BK267 := am_ (blk_below (g := gb267) (o := .cells #[.slice Ao17 t256.length co17, .slice Ao20 t259.length co20, .slice Ao21 t262.length co21, .int .i64 t265] 28 (0, 0)) u51_ hb); replace HB := am_ (below_step u17_ hb); (try clear hb); (try clear hb2); (try clear hk); (try clear hi)))
      go_ret
      exact ⟨u8_, u17_⟩
     ·rw [if_neg c34] at H; have c34b0 : (t254 == t266) = false := by simpa using c34
      (try (have c34b1 : decide (t254 = t266) = false := by simpa using c34))
      (try (have c34b2 : (t254 == t266) = false := by simpa using c34))
      (try (have c34b3 : ¬ (t254 = t266) := by simpa using c34))
      clear c34; obtain rfl := Option.some.inj H; go_wp2; go_ret
      exact ⟨u8_, u17_⟩
    ·replace c33 := Bool.eq_false_iff.mpr c33; subst c33; rw [if_neg (show ¬ (false = true) by decide)] at H; replace H := Option.bind_eq_some_iff.mp H; obtain ⟨t270, A400, H⟩ := H; replace H : (if t270 = true then (some ((wrap64 ((wrap64 ((t247.length : Int) + (t250.length : Int))) + t253)) == 0)) else (some false)) = some r := H; have A40 := am_ A400; clear A400; by_cases c41 : t270 = true
     ·subst c41; rw [if_pos rfl] at H; obtain rfl := Option.some.inj H; have hnb42 := NB255_267.out; have hnc42 := NB267_255.out; have hcz43_0 : wc.cell? ⟨gb255, 0, none⟩ = some (.slice Ao11 t244.length co11) := (blk_cell BK255.out 0).trans rfl; have hcz43_1 : wc.cell? ⟨gb255, 1, none⟩ = some (.slice Ao13 t247.length co13) := (blk_cell BK255.out 1).trans rfl; have hcz43_2 : wc.cell? ⟨gb255, 2, none⟩ = some (.slice Ao14 t250.length co14) := (blk_cell BK255.out 2).trans rfl; have hcz43_3 : wc.cell? ⟨gb255, 3, none⟩ = some (.int .i64 t253) := (blk_cell BK255.out 3).trans rfl; have hfz43_0 := blk_frozen BK255.out 0; have hfz43_1 := blk_frozen BK255.out 1; have hfz43_2 := blk_frozen BK255.out 2; have hfz43_3 := blk_frozen BK255.out 3; go_wp2_with (first | ((with_reducible refine gate_callee (f := 9) rfl ?_); refine goesL_ (some 45) rfl rfl Tryz.func9 u10_ rfl #[.agg #[.slice Ao11 t244.length co11, .slice Ao13 t247.length co13, .slice Ao14 t250.length co14, .int .i64 t253]] rfl u3_ ?_; (with_reducible refine (impl_IndexOk.calls kj5 _ _ t244 _ _ t247 _ _ t250 t253 true _ ?side1 ?side2 ?side3 ?side4 ?side5 ?side6 A40.out).mono ?_); (case side1 => exact u58_); (case side2 => exact (Kd.R_reads' HO_256000.out).2.1); (case side3 => exact u59_); (case side4 => exact (Kd.S_reads' HO_256001.out).2.1); (case side5 => exact u60_); (case side6 => exact (Kd.R_reads' HO_256002.out).2.1); rintro e w44 ⟨rfl, hb⟩; refine ⟨_, rfl, ?_⟩; replace HO_256000 := am_ (Kd.R_below u66_ hb); replace HO_256001 := am_ (Kd.S_below u67_ hb); replace HO_256002 := am_ (Kd.R_below u68_ hb); replace HO_268000 := am_ (Kd.R_below u69_ hb); replace HO_268001 := am_ (Kd.S_below u70_ hb); replace HO_268002 := am_ (Kd.R_below u71_ hb); replace BK255 := am_ (blk_below (g := gb255) (o := .cells #[.slice Ao11 t244.length co11, .slice Ao13 t247.length co13, .slice Ao14 t250.length co14, .int .i64 t253] 28 (0, 0)) u36_ hb); replace BK267 := am_ (blk_below (g := gb267) (o := .cells #[.slice Ao17 t256.length co17, .slice Ao20 t259.length co20, .slice Ao21 t262.length co21, .int .i64 t265] 28 (0, 0)) u51_ hb); replace HB := am_ (below_step u17_ hb); (try clear hb); (try clear hb2); (try clear hk); (try clear hi); have hcz45_0 : w44.cell? ⟨gb255, 0, none⟩ = some (.slice Ao11 t244.length co11) := (blk_cell BK255.out 0).trans rfl; have hcz45_1 : w44.cell? ⟨gb255, 1, none⟩ = some (.slice Ao13 t247.length co13) := (blk_cell BK255.out 1).trans rfl; have hcz45_2 : w44.cell? ⟨gb255, 2, none⟩ = some (.slice Ao14 t250.length co14) := (blk_cell BK255.out 2).trans rfl; have hcz45_3 : w44.cell? ⟨gb255, 3, none⟩ = some (.int .i64 t253) := (blk_cell BK255.out 3).trans rfl; have hfz45_0 := blk_frozen BK255.out 0; have hfz45_1 := blk_frozen BK255.out 1; have hfz45_2 := blk_frozen BK255.out 2; have hfz45_3 := blk_frozen BK255.out 3))
      go_ret
      exact ⟨u8_, u17_⟩
     ·replace c41 := Bool.eq_false_iff.mpr c41; subst c41; rw [if_neg (show ¬ (false = true) by decide)] at H; obtain rfl := Option.some.inj H; have hnb46 := NB255_267.out; have hnc46 := NB267_255.out; have hcz47_0 : wc.cell? ⟨gb255, 0, none⟩ = some (.slice Ao11 t244.length co11) := (blk_cell BK255.out 0).trans rfl; have hcz47_1 : wc.cell? ⟨gb255, 1, none⟩ = some (.slice Ao13 t247.length co13) := (blk_cell BK255.out 1).trans rfl; have hcz47_2 : wc.cell? ⟨gb255, 2, none⟩ = some (.slice Ao14 t250.length co14) := (blk_cell BK255.out 2).trans rfl; have hcz47_3 : wc.cell? ⟨gb255, 3, none⟩ = some (.int .i64 t253) := (blk_cell BK255.out 3).trans rfl; have hfz47_0 := blk_frozen BK255.out 0; have hfz47_1 := blk_frozen BK255.out 1; have hfz47_2 := blk_frozen BK255.out 2; have hfz47_3 := blk_frozen BK255.out 3; go_wp2_with (first | ((with_reducible refine gate_callee (f := 9) rfl ?_); refine goesL_ (some 45) rfl rfl Tryz.func9 u10_ rfl #[.agg #[.slice Ao11 t244.length co11, .slice Ao13 t247.length co13, .slice Ao14 t250.length co14, .int .i64 t253]] rfl u3_ ?_; (with_reducible refine (impl_IndexOk.calls kj5 _ _ t244 _ _ t247 _ _ t250 t253 false _ ?side1 ?side2 ?side3 ?side4 ?side5 ?side6 A40.out).mono ?_); (case side1 => exact u58_); (case side2 => exact (Kd.R_reads' HO_256000.out).2.1); (case side3 => exact u59_); (case side4 => exact (Kd.S_reads' HO_256001.out).2.1); (case side5 => exact u60_); (case side6 => exact (Kd.R_reads' HO_256002.out).2.1); rintro e w48 ⟨rfl, hb⟩; refine ⟨_, rfl, ?_⟩; replace HO_256000 := am_ (Kd.R_below u66_ hb); replace HO_256001 := am_ (Kd.S_below u67_ hb); replace HO_256002 := am_ (Kd.R_below u68_ hb); replace HO_268000 := am_ (Kd.R_below u69_ hb); replace HO_268001 := am_ (Kd.S_below u70_ hb); replace HO_268002 := am_ (Kd.R_below u71_ hb); replace BK255 := am_ (blk_below (g := gb255) (o := .cells #[.slice Ao11 t244.length co11, .slice Ao13 t247.length co13, .slice Ao14 t250.length co14, .int .i64 t253] 28 (0, 0)) u36_ hb); replace BK267 := am_ (blk_below (g := gb267) (o := .cells #[.slice Ao17 t256.length co17, .slice Ao20 t259.length co20, .slice Ao21 t262.length co21, .int .i64 t265] 28 (0, 0)) u51_ hb); replace HB := am_ (below_step u17_ hb); (try clear hb); (try clear hb2); (try clear hk); (try clear hi)))
      go_ret
      exact ⟨u8_, u17_⟩

/-- THE ONE PURE STATEMENT of laws_FnIndexNew: yours. -/
def laws_FnIndexNew.Pure : Prop := ∀ (l0 : List Int), l0.length ≤ maxLen → l0.length * 1 ≤ 140737488351232 → (∀ x ∈ l0, (Lit.int .u8 x).wf = true) → ∃ k, laws_FnIndexNew.f k l0 = some true
theorem laws_FnIndexNew.walk (P : laws_FnIndexNew.Pure) (a0 : Option Addr) (len0 cap0 : Nat) (z0 : List Int) (w : World) (w0 : (a0 = none ∧ len0 = 0 ∧ cap0 = 0 ∧ z0 = []) ∨ ∃ x, a0 = some x ∧ len0 ≤ cap0 ∧ cap0 ≤ maxLen ∧ z0.length = cap0 ∧ (∀ i, i < z0.length → w.cell? (x.add i) = some (.int .u8 (z0.getD i 0))) ∧ ∀ n ∈ z0, (Lit.int .u8 n).wf = true) (y0 : len0 * 1 ≤ 140737488351232) :
  Calls Tryz.prog 3 #[.slice a0 len0 cap0] w fun e w' => e = .returned (.bool true) ∧ Below w.heap.size w w' := by
 obtain ⟨l0, rfl, hr0, hm0, hw0, hc0⟩ := ReadsInt.ofRowC w0; obtain ⟨k, h⟩ := P l0 hm0 y0 hw0; refine (laws_FnIndexNew.calls k _ _ l0 true w (Kd.C_of_reads (d := (0 : Int)) (h1 := fun _ => rfl) hr0) hc0 h).mono ?_; rintro e w' ⟨rfl, hd⟩; exact ⟨rfl, hd⟩

end Go.Proofs.YtelcdhjdlgedeaaGreatDoor.PFnIndexNew
