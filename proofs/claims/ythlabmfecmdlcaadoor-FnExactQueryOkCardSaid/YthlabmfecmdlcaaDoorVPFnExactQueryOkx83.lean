/- Contracts of Go functions that the law FnExactQueryOk reaches: each is told as a plain Lean function, with the walk that shows it; no condition beyond what each states. Written by a program of this session round the kit's printer. -/
import Derived.Test.YthlabmfecmdlcaaDoorVPFnExactQueryOkx0
import Derived.Test.YthlabmfecmdlcaaDoorVPFnExactQueryOkx6
import Derived.Test.YthlabmfecmdlcaaDoorVPFnExactQueryOkx7
import Derived.Test.YthlabmfecmdlcaaDoorVPFnExactQueryOkx80
namespace Go.Proofs.YthlabmfecmdlcaaDoor.PFnExactQueryOk
open Go.RowKit Go.Proofs.YthlabmfecmdlcaaDoorW.PrintWords Go.Proofs.YthlabmfecmdlcaaDoorW.PrintLast Go.Proofs.YthlabmfecmdlcaaDoorW.PrintMore
attribute [local go_sem] isSome_setCell run_str_geq run_str_leq max2_int min2_int max_two min_two max_three min_three max_four min_four   -- for this text's walks alone
set_option linter.unusedVariables false
set_option linter.unusedSimpArgs false

set_option maxHeartbeats 8000000 in
set_option maxRecDepth 100000 in
theorem impl_Query_ok.calls_B (k : Nat) (ih : ∀ m_, m_ < k → impl_Query_ok.Stmt m_) : ∀ (a0_0 : Int) (a0_1 : ByteArray) (a0_2 : ByteArray) (a0_3 : Int) (a0_4 : Int) (A0_5 : Option Addr) (c0_5 : Nat) (l0_5 : List (S29)) (a1 : Int) (r : Bool) (w : World) (hG : StopsIn w) (hr0_5 : Kd.C k29 w A0_5 l0_5.length l0_5) (hc0_5 : l0_5.length ≤ c0_5) (h : impl_Query_ok.f k a0_0 a0_1 a0_2 a0_3 a0_4 l0_5 a1 = some r) (hV : Aside0 (a0_0 ≠ 1 ∧ a0_0 ≠ 2 ∧ a0_0 ≠ 3 ∧ a0_0 ≠ 4 ∧ a0_0 ≠ 5 ∧ a0_0 ≠ 6)),
  Calls Tryd.prog 12 #[.agg #[.int .i64 a0_0, .string a0_1, .string a0_2, .int .i64 a0_3, .int .i64 a0_4, .slice A0_5 l0_5.length c0_5], .int .i64 a1] w fun e w' => e = .returned (.bool r) ∧ Below w.heap.size w w' := by
 intro a0_0 a0_1 a0_2 a0_3 a0_4 A0_5 c0_5 l0_5 a1 r w hG hr0_5 hc0_5 h hV; cases k with
 | zero => exact absurd h (by simp [impl_Query_ok.f])
 | succ k =>
 simp only [impl_Query_ok.f] at h; have hu29 := Tryd.underlying29; have HG_ := am_ hG; clear hG; have HR0_5 := am_ hr0_5; have HC0_5 := am_ hc0_5; clear hr0_5 hc0_5; have HB := am_ (Below.refl w.heap.size w); have H : (if a1 > 4 then (some false) else (if a0_3 = 0 then (impl_Query_ok.j0 k a1 (a0_2.toList != ([] : List UInt8)) (a0_4 != 0) (l0_5.length : Int) a0_0 a0_1 a0_2 a0_3 a0_4 l0_5) else (impl_Query_ok.j0 k a1 (a0_2.toList != ([] : List UInt8)) true (l0_5.length : Int) a0_0 a0_1 a0_2 a0_3 a0_4 l0_5))) = some r := h; clear h; by_cases c3 : a1 > 4
 ·rw [if_pos c3] at H; have c3b0 : decide (4 < a1) = true := decide_eq_true c3; clear c3; obtain rfl := Option.some.inj H; go_enter Tryd.func12, Tryd.ntmps12
  go_wp2_with (first | ((with_reducible refine gate_dst (N := 2) rfl ?_); (try (refine gate_guard u30_ ?_; dsimp only)); refine box_event ?hg (N := 2) ?hd (cs := #[.int .i64 a0_0, .string a0_1, .string a0_2, .int .i64 a0_3, .int .i64 a0_4, .slice A0_5 l0_5.length c0_5]) (t := 29) ?hr ?_; (case hd => rfl); (case hg => rfl); (case hr => exact u26_); intro gb195 hg w4 hbox hb; have BK195 := am_ (hbox); have GW195 := am_ ((by rw [hg]; exact (below_size u1_) : w.heap.size ≤ gb195)); have GE195 := GW195; replace HB := am_ (below_step u1_ hb); clear hb hbox hg))
  go_ret
  exact ⟨u2_, u3_⟩
 ·rw [if_neg c3] at H; have c3b0 : decide (4 < a1) = false := decide_eq_false c3; clear c3; have HC5 := am_ H; clear H; go_enter Tryd.func12, Tryd.ntmps12
  go_upto_region 3 with (first | ((with_reducible refine gate_dst (N := 2) rfl ?_); (try (refine gate_guard u30_ ?_; dsimp only)); refine box_event ?hg (N := 2) ?hd (cs := #[.int .i64 a0_0, .string a0_1, .string a0_2, .int .i64 a0_3, .int .i64 a0_4, .slice A0_5 l0_5.length c0_5]) (t := 29) ?hr ?_; (case hd => rfl); (case hg => rfl); (case hr => exact u26_); intro gb195 hg w6 hbox hb; have BK195 := am_ (hbox); have GW195 := am_ ((by rw [hg]; exact (below_size u1_) : w.heap.size ≤ gb195)); have GE195 := GW195; replace HB := am_ (below_step u1_ hb); clear hb hbox hg))
  (try simp only [Act.put, List.setIfInBounds_toArray, List.set_cons_zero, List.set_cons_succ])
  go_cut [5, 6, 7] (fun v5 v6 v7 wc => ∃ (kq : Nat) (x5_4 : Bool) (x6_4 : Bool) (x7_4 : Int), v5 = .bool x5_4 ∧ v6 = .bool x6_4 ∧ v7 = .int .i64 x7_4 ∧ Aside0 (impl_Query_ok.j0 kq a1 x5_4 x6_4 x7_4 a0_0 a0_1 a0_2 a0_3 a0_4 l0_5 = some r) ∧ Aside0 (kq ≤ k) ∧ Aside0 (wc.heap[gb195]? = some (.cells #[.int .i64 a0_0, .string a0_1, .string a0_2, .int .i64 a0_3, .int .i64 a0_4, (.slice A0_5 l0_5.length c0_5)] 29 (0, 0))) ∧ Aside0 (Below w.heap.size w wc))
  case first =>
   have H := HC5.out; clear HC5; by_cases c7 : a0_3 = 0
   ·rw [if_pos c7] at H; have c7b0 : (a0_3 == 0) = true := beq_iff_eq.mpr c7; have c7b1 : (a0_3 != 0) = false := bne_eq_false_iff_eq.mpr c7; clear c7; (first | rw [c7b0] | (simp only [i64_w, i32_w]; rw [c7b0]) | skip)
    have H' := am_ H; clear H; try go_wp2
    replace BK195 := am_ (blk_drew BK195.out); replace HB := am_ (below_drew1 HB.out); refine start_ (n := 17) (S := fun w' => w'.cell? ⟨gb195, 0, none⟩ = some (.int .i64 a0_0) ∧ w'.cell? ⟨gb195, 1, none⟩ = some (.string a0_1) ∧ w'.cell? ⟨gb195, 2, none⟩ = some (.string a0_2) ∧ w'.cell? ⟨gb195, 3, none⟩ = some (.int .i64 a0_3) ∧ w'.cell? ⟨gb195, 4, none⟩ = some (.int .i64 a0_4) ∧ w'.cell? ⟨gb195, 5, none⟩ = some (.slice A0_5 l0_5.length c0_5)) (ds := []) (bm_ 17 0) u8_ rfl rfl ⟨(blk_cell BK195.out 0).trans rfl, (blk_cell BK195.out 1).trans rfl, (blk_cell BK195.out 2).trans rfl, (blk_cell BK195.out 3).trans rfl, (blk_cell BK195.out 4).trans rfl, (blk_cell BK195.out 5).trans rfl⟩ (fun hHeld => ?_); refine with_tabW impl_Query_ok.tab3 impl_Query_ok.bits3 (fun HT_ HW_ => ?_); generalize w6.drew = w8 at BK195 HB hHeld ⊢; refine pure_ (i := 0) (N := some 13) (v := ?_) (a' := ?_) (bm_ 17 1) rfl rfl (any_of HT_.out u8_) (fun _ _ _ h => h) (Or.inl ⟨u30_, ?_⟩) ?_ ?_; rotate_left
    ·exact u5_
    rotate_left
    ·exact u0_
    refine pure_ (i := 3) (N := some 16) (v := ?_) (a' := ?_) (bm_ 17 9) rfl rfl (any_of HT_.out u8_) (fun _ _ _ h => h) (Or.inl ⟨u30_, ?_⟩) ?_ ?_; rotate_left
    ·exact u5_
    rotate_left
    ·exact u0_
    refine pure_ (i := 11) (N := some 24) (v := ?_) (a' := ?_) (bm_ 17 2057) rfl rfl (any_of HT_.out u8_) (fun _ _ _ h => h) (Or.inl ⟨u30_, ?_⟩) ?_ ?_; rotate_left
    ·exact u5_
    rotate_left
    ·exact u0_
    refine take_ (i := 1) (N := some 14) (v := ?_) (a' := ?_) (bm_ 17 2059) rfl rfl (take_ofW HT_.out HW_.out u8_) (fun _ _ _ h => h) (Or.inl ⟨u30_, ?_⟩) hHeld ?_ ?_; rotate_left
    ·exact u17_
    rotate_left
    ·exact u0_
    refine pure_ (i := 2) (N := some 15) (v := ?_) (a' := ?_) (bm_ 17 2063) rfl rfl (any_of HT_.out u8_) (fun _ _ _ h => h) (Or.inl ⟨u30_, ?_⟩) ?_ ?_; rotate_left
    ·exact u5_
    rotate_left
    ·exact u0_
    refine take_ (i := 4) (N := some 17) (v := ?_) (a' := ?_) (bm_ 17 2079) rfl rfl (take_ofW HT_.out HW_.out u8_) (fun _ _ _ h => h) (Or.inl ⟨u30_, ?_⟩) hHeld ?_ ?_; rotate_left
    ·exact u17_
    rotate_left
    ·exact u0_
    refine pure_ (i := 5) (N := some 18) (v := ?_) (a' := ?_) (bm_ 17 2111) rfl rfl (any_of HT_.out u8_) (fun _ _ _ h => h) (Or.inl ⟨u30_, ?_⟩) ?_ ?_; rotate_left
    ·exact u5_
    rotate_left
    ·exact u0_
    refine pure_ (i := 6) (N := some 19) (v := ?_) (a' := ?_) (bm_ 17 2175) rfl rfl (any_of HT_.out u8_) (fun _ _ _ h => h) (Or.inl ⟨u30_, ?_⟩) ?_ ?_; rotate_left
    ·exact u5_
    rotate_left
    ·exact u0_
    refine pure_ (i := 7) (N := some 20) (v := ?_) (a' := ?_) (bm_ 17 2303) rfl rfl (any_of HT_.out u8_) (fun _ _ _ h => h) (Or.inl ⟨u30_, ?_⟩) ?_ ?_; rotate_left
    ·exact u5_
    rotate_left
    ·exact u0_
    refine pure_ (i := 14) (N := some 5) (v := ?_) (a' := ?_) (bm_ 17 18687) rfl rfl (any_of HT_.out u8_) (fun _ _ _ h => h) (Or.inl ⟨u30_, ?_⟩) ?_ ?_; rotate_left
    ·exact u5_
    rotate_left
    ·exact u0_
    refine take_ (i := 8) (N := some 21) (v := ?_) (a' := ?_) (bm_ 17 18943) rfl rfl (take_ofW HT_.out HW_.out u8_) (fun _ _ _ h => h) (Or.inl ⟨u30_, ?_⟩) hHeld ?_ ?_; rotate_left
    ·exact u17_
    rotate_left
    ·exact u0_
    refine pure_ (i := 9) (N := some 22) (v := ?_) (a' := ?_) (bm_ 17 19455) rfl rfl (any_of HT_.out u8_) (fun _ _ _ h => h) (Or.inl ⟨u30_, ?_⟩) ?_ ?_; rotate_left
    ·exact u5_
    rotate_left
    ·exact u0_
    refine pure_ (i := 10) (N := some 23) (v := ?_) (a' := ?_) (bm_ 17 20479) rfl rfl (any_of HT_.out u8_) (fun _ _ _ h => h) (Or.inl ⟨u30_, ?_⟩) ?_ ?_; rotate_left
    ·exact u5_
    rotate_left
    ·exact u0_
    refine pure_ (i := 15) (N := some 6) (v := ?_) (a' := ?_) (bm_ 17 53247) rfl rfl (any_of HT_.out u8_) (fun _ _ _ h => h) (Or.inl ⟨u30_, ?_⟩) ?_ ?_; rotate_left
    ·exact u5_
    rotate_left
    ·exact u0_
    refine take_ (i := 12) (N := some 25) (v := ?_) (a' := ?_) (bm_ 17 57343) rfl rfl (take_ofW HT_.out HW_.out u8_) (fun _ _ _ h => h) (Or.inl ⟨u30_, ?_⟩) hHeld ?_ ?_; rotate_left
    ·exact u17_
    rotate_left
    ·exact u0_
    refine pure_ (i := 13) (N := some 26) (v := ?_) (a' := ?_) (bm_ 17 65535) rfl rfl (any_of HT_.out u8_) (fun _ _ _ h => h) (Or.inl ⟨u30_, ?_⟩) ?_ ?_; rotate_left
    ·exact u5_
    rotate_left
    ·exact u0_
    refine pure_ (i := 16) (N := some 7) (v := ?_) (a' := ?_) (bm_ 17 131071) rfl rfl (any_of HT_.out u8_) (fun _ _ _ h => h) (Or.inl ⟨u30_, ?_⟩) ?_ ?_; rotate_left
    ·exact u5_
    rotate_left
    ·exact u0_
    refine done_ (done_of HT_.out u8_) ?_; try go_wp2
    go_meet
    case rel => exact ⟨_, ((a0_2.toList != ([] : List UInt8))), ((a0_4 != 0)), ((l0_5.length : Int)), u10_, u10_, u10_, H', ⟨u46_⟩, ⟨u11_⟩, ⟨u3_⟩⟩
   ·rw [if_neg c7] at H; have c7b0 : (a0_3 == 0) = false := beq_eq_false_iff_ne.mpr c7; have c7b1 : (a0_3 != 0) = true := bne_iff_ne.mpr c7; (first | rw [c7b0] | (simp only [i64_w, i32_w]; rw [c7b0]) | skip)
    have H' := am_ H; clear H; try go_wp2
    replace BK195 := am_ (blk_drew BK195.out); replace HB := am_ (below_drew1 HB.out); refine start_ (n := 17) (S := fun w' => w'.cell? ⟨gb195, 0, none⟩ = some (.int .i64 a0_0) ∧ w'.cell? ⟨gb195, 1, none⟩ = some (.string a0_1) ∧ w'.cell? ⟨gb195, 2, none⟩ = some (.string a0_2) ∧ w'.cell? ⟨gb195, 3, none⟩ = some (.int .i64 a0_3) ∧ w'.cell? ⟨gb195, 4, none⟩ = some (.int .i64 a0_4) ∧ w'.cell? ⟨gb195, 5, none⟩ = some (.slice A0_5 l0_5.length c0_5)) (ds := []) (bm_ 17 0) u8_ rfl rfl ⟨(blk_cell BK195.out 0).trans rfl, (blk_cell BK195.out 1).trans rfl, (blk_cell BK195.out 2).trans rfl, (blk_cell BK195.out 3).trans rfl, (blk_cell BK195.out 4).trans rfl, (blk_cell BK195.out 5).trans rfl⟩ (fun hHeld => ?_); refine with_tabW impl_Query_ok.tab3 impl_Query_ok.bits3 (fun HT_ HW_ => ?_); generalize w6.drew = w9 at BK195 HB hHeld ⊢; refine pure_ (i := 0) (N := some 13) (v := ?_) (a' := ?_) (bm_ 17 1) rfl rfl (any_of HT_.out u8_) (fun _ _ _ h => h) (Or.inl ⟨u30_, ?_⟩) ?_ ?_; rotate_left
    ·exact u5_
    rotate_left
    ·exact u0_
    refine pure_ (i := 3) (N := some 16) (v := ?_) (a' := ?_) (bm_ 17 9) rfl rfl (any_of HT_.out u8_) (fun _ _ _ h => h) (Or.inl ⟨u30_, ?_⟩) ?_ ?_; rotate_left
    ·exact u5_
    rotate_left
    ·exact u0_
    refine pure_ (i := 11) (N := some 24) (v := ?_) (a' := ?_) (bm_ 17 2057) rfl rfl (any_of HT_.out u8_) (fun _ _ _ h => h) (Or.inl ⟨u30_, ?_⟩) ?_ ?_; rotate_left
    ·exact u5_
    rotate_left
    ·exact u0_
    refine take_ (i := 1) (N := some 14) (v := ?_) (a' := ?_) (bm_ 17 2059) rfl rfl (take_ofW HT_.out HW_.out u8_) (fun _ _ _ h => h) (Or.inl ⟨u30_, ?_⟩) hHeld ?_ ?_; rotate_left
    ·exact u17_
    rotate_left
    ·exact u0_
    refine pure_ (i := 2) (N := some 15) (v := ?_) (a' := ?_) (bm_ 17 2063) rfl rfl (any_of HT_.out u8_) (fun _ _ _ h => h) (Or.inl ⟨u30_, ?_⟩) ?_ ?_; rotate_left
    ·exact u5_
    rotate_left
    ·exact u0_
    refine take_ (i := 4) (N := some 17) (v := ?_) (a' := ?_) (bm_ 17 2079) rfl rfl (take_ofW HT_.out HW_.out u8_) (fun _ _ _ h => h) (Or.inl ⟨u30_, ?_⟩) hHeld ?_ ?_; rotate_left
    ·exact u17_
    rotate_left
    ·exact u0_
    refine pure_ (i := 5) (N := some 18) (v := ?_) (a' := ?_) (bm_ 17 2111) rfl rfl (any_of HT_.out u8_) (fun _ _ _ h => h) (Or.inl ⟨u30_, ?_⟩) ?_ ?_; rotate_left
    ·exact u5_
    rotate_left
    ·exact u0_
    refine pure_ (i := 6) (N := some 19) (v := ?_) (a' := ?_) (bm_ 17 2175) rfl rfl (any_of HT_.out u8_) (fun _ _ _ h => h) (Or.inl ⟨u30_, ?_⟩) ?_ ?_; rotate_left
    ·exact u5_
    rotate_left
    ·exact u0_
    refine pure_ (i := 7) (N := some 20) (v := undef) (a' := ?_) (bm_ 17 2303) rfl rfl (any_of HT_.out u8_) (fun _ _ _ h => h) (Or.inr ⟨u30_, rfl⟩) ?_ ?_; rotate_left
    ·exact u0_
    refine pure_ (i := 8) (N := some 21) (v := undef) (a' := ?_) (bm_ 17 2559) rfl rfl (any_of HT_.out u8_) (fun _ _ _ h => h) (Or.inr ⟨u30_, rfl⟩) ?_ ?_; rotate_left
    ·exact u0_
    refine pure_ (i := 9) (N := some 22) (v := undef) (a' := ?_) (bm_ 17 3071) rfl rfl (any_of HT_.out u8_) (fun _ _ _ h => h) (Or.inr ⟨u30_, rfl⟩) ?_ ?_; rotate_left
    ·exact u0_
    refine pure_ (i := 10) (N := some 23) (v := ?_) (a' := ?_) (bm_ 17 4095) rfl rfl (any_of HT_.out u8_) (fun _ _ _ h => h) (Or.inl ⟨u30_, ?_⟩) ?_ ?_; rotate_left
    ·exact u5_
    rotate_left
    ·exact u0_
    refine pure_ (i := 14) (N := some 5) (v := ?_) (a' := ?_) (bm_ 17 20479) rfl rfl (any_of HT_.out u8_) (fun _ _ _ h => h) (Or.inl ⟨u30_, ?_⟩) ?_ ?_; rotate_left
    ·exact u5_
    rotate_left
    ·exact u0_
    refine pure_ (i := 15) (N := some 6) (v := ?_) (a' := ?_) (bm_ 17 53247) rfl rfl (any_of HT_.out u8_) (fun _ _ _ h => h) (Or.inl ⟨u30_, ?_⟩) ?_ ?_; rotate_left
    ·exact u5_
    rotate_left
    ·exact u0_
    refine take_ (i := 12) (N := some 25) (v := ?_) (a' := ?_) (bm_ 17 57343) rfl rfl (take_ofW HT_.out HW_.out u8_) (fun _ _ _ h => h) (Or.inl ⟨u30_, ?_⟩) hHeld ?_ ?_; rotate_left
    ·exact u17_
    rotate_left
    ·exact u0_
    refine pure_ (i := 13) (N := some 26) (v := ?_) (a' := ?_) (bm_ 17 65535) rfl rfl (any_of HT_.out u8_) (fun _ _ _ h => h) (Or.inl ⟨u30_, ?_⟩) ?_ ?_; rotate_left
    ·exact u5_
    rotate_left
    ·exact u0_
    refine pure_ (i := 16) (N := some 7) (v := ?_) (a' := ?_) (bm_ 17 131071) rfl rfl (any_of HT_.out u8_) (fun _ _ _ h => h) (Or.inl ⟨u30_, ?_⟩) ?_ ?_; rotate_left
    ·exact u5_
    rotate_left
    ·exact u0_
    refine done_ (done_of HT_.out u8_) ?_; try go_wp2
    go_meet
    case rel => exact ⟨_, ((a0_2.toList != ([] : List UInt8))), (true), ((l0_5.length : Int)), u10_, u10_, u10_, H', ⟨u46_⟩, ⟨u11_⟩, ⟨u3_⟩⟩
  case rest =>
   clear HC5; try clear c1
   try clear p2
   try clear c3
   try clear c3b0
   try clear c7
   try clear c7b0
   try clear c7b1
   obtain ⟨kq, x5_4, x6_4, x7_4, rfl, rfl, rfl, HA, HJ4, BK195, HB⟩ := hcut; cases kq with
   | zero => exact absurd HA.out (by simp [impl_Query_ok.j0])
   | succ kj4 =>
    have H := HA.out; clear HA; simp only [impl_Query_ok.j0] at H; have HC10 := am_ H; clear H; go_upto_region 4 with (fail)
    go_cut [8] (fun v8 wc => ∃ (kq : Nat) (x8_9 : Bool), v8 = .bool x8_9 ∧ Aside0 (impl_Query_ok.j1 kq a1 x5_4 x6_4 x7_4 x8_9 a0_0 a0_1 a0_2 a0_3 a0_4 l0_5 = some r) ∧ Aside0 (kq ≤ kj4) ∧ Aside0 (wc.heap[gb195]? = some (.cells #[.int .i64 a0_0, .string a0_1, .string a0_2, .int .i64 a0_3, .int .i64 a0_4, (.slice A0_5 l0_5.length c0_5)] 29 (0, 0))) ∧ Aside0 (Below w.heap.size w wc))
    case first =>
     have H := HC10.out; clear HC10; by_cases c11 : a0_1.toList = ([] : List UInt8)
     ·rw [if_pos c11] at H; have c11b0 : (a0_1.toList == ([] : List UInt8)) = true := beq_iff_eq.mpr c11; have c11b1 : (a0_1.toList != ([] : List UInt8)) = false := bne_eq_false_iff_eq.mpr c11; clear c11; (first | rw [c11b0] | (simp only [i64_w, i32_w]; rw [c11b0]) | skip)
      have H' := am_ H; clear H; have hcz12_0 : wc.cell? ⟨gb195, 0, none⟩ = some (.int .i64 a0_0) := (blk_cell BK195.out 0).trans rfl; have hcz12_1 : wc.cell? ⟨gb195, 1, none⟩ = some (.string a0_1) := (blk_cell BK195.out 1).trans rfl; have hcz12_2 : wc.cell? ⟨gb195, 2, none⟩ = some (.string a0_2) := (blk_cell BK195.out 2).trans rfl; have hcz12_3 : wc.cell? ⟨gb195, 3, none⟩ = some (.int .i64 a0_3) := (blk_cell BK195.out 3).trans rfl; have hcz12_4 : wc.cell? ⟨gb195, 4, none⟩ = some (.int .i64 a0_4) := (blk_cell BK195.out 4).trans rfl; have hcz12_5 : wc.cell? ⟨gb195, 5, none⟩ = some (.slice A0_5 l0_5.length c0_5) := (blk_cell BK195.out 5).trans rfl; have hfz12_0 := blk_frozen BK195.out 0; have hfz12_1 := blk_frozen BK195.out 1; have hfz12_2 := blk_frozen BK195.out 2; have hfz12_3 := blk_frozen BK195.out 3; have hfz12_4 := blk_frozen BK195.out 4; have hfz12_5 := blk_frozen BK195.out 5; go_wp2; go_meet
      case rel => exact ⟨_, (true), u10_, H', ⟨u49_⟩, ⟨u11_⟩, ⟨u3_⟩⟩
     ·rw [if_neg c11] at H; have c11b0 : (a0_1.toList == ([] : List UInt8)) = false := beq_eq_false_iff_ne.mpr c11; have c11b1 : (a0_1.toList != ([] : List UInt8)) = true := bne_iff_ne.mpr c11; (first | rw [c11b0] | (simp only [i64_w, i32_w]; rw [c11b0]) | skip)
      replace H := Option.bind_eq_some_iff.mp H; obtain ⟨t196, A130, H⟩ := H; replace H : (impl_Query_ok.j1 kj4 a1 x5_4 x6_4 x7_4 t196 a0_0 a0_1 a0_2 a0_3 a0_4 l0_5) = some r := H; have A13 := am_ A130; clear A130; have H' := am_ H; clear H; have hcz14_0 : wc.cell? ⟨gb195, 0, none⟩ = some (.int .i64 a0_0) := (blk_cell BK195.out 0).trans rfl; have hcz14_1 : wc.cell? ⟨gb195, 1, none⟩ = some (.string a0_1) := (blk_cell BK195.out 1).trans rfl; have hcz14_2 : wc.cell? ⟨gb195, 2, none⟩ = some (.string a0_2) := (blk_cell BK195.out 2).trans rfl; have hcz14_3 : wc.cell? ⟨gb195, 3, none⟩ = some (.int .i64 a0_3) := (blk_cell BK195.out 3).trans rfl; have hcz14_4 : wc.cell? ⟨gb195, 4, none⟩ = some (.int .i64 a0_4) := (blk_cell BK195.out 4).trans rfl; have hcz14_5 : wc.cell? ⟨gb195, 5, none⟩ = some (.slice A0_5 l0_5.length c0_5) := (blk_cell BK195.out 5).trans rfl; have hfz14_0 := blk_frozen BK195.out 0; have hfz14_1 := blk_frozen BK195.out 1; have hfz14_2 := blk_frozen BK195.out 2; have hfz14_3 := blk_frozen BK195.out 3; have hfz14_4 := blk_frozen BK195.out 4; have hfz14_5 := blk_frozen BK195.out 5; go_wp2_with (first | (go_at_call 16; (with_reducible refine (impl_NameOk.calls kj4 a0_1 t196 _ A13.out).mono ?_); rintro e w' ⟨rfl, ⟨nd, rfl⟩⟩))
      go_meet
      case rel => exact ⟨_, (t196), u10_, H', ⟨u49_⟩, ⟨u11_⟩, ⟨u3_⟩⟩
    case rest =>
     clear HC10; try clear c1
     try clear p2
     try clear c3
     try clear c3b0
     try clear c7
     try clear c7b0
     try clear c7b1
     try clear c11
     try clear c11b0
     try clear c11b1
     try clear c12
     try clear hcz12_0
     try clear hcz12_1
     try clear hcz12_2
     try clear hcz12_3
     try clear hcz12_4
     try clear hcz12_5
     try clear hcz14_0
     try clear hcz14_1
     try clear hcz14_2
     try clear hcz14_3
     try clear hcz14_4
     try clear hcz14_5
     try clear hfz12_0
     try clear hfz12_1
     try clear hfz12_2
     try clear hfz12_3
     try clear hfz12_4
     try clear hfz12_5
     try clear hfz14_0
     try clear hfz14_1
     try clear hfz14_2
     try clear hfz14_3
     try clear hfz14_4
     try clear hfz14_5
     try clear p2
     obtain ⟨kq, x8_9, rfl, HA, HJ9, BK195, HB⟩ := hcut; cases kq with
     | zero => exact absurd HA.out (by simp [impl_Query_ok.j1])
     | succ kj9 =>
      have H := HA.out; clear HA; simp only [impl_Query_ok.j1] at H; have HC15 := am_ H; clear H; have hcz16_0 : wc.cell? ⟨gb195, 0, none⟩ = some (.int .i64 a0_0) := (blk_cell BK195.out 0).trans rfl; have hcz16_1 : wc.cell? ⟨gb195, 1, none⟩ = some (.string a0_1) := (blk_cell BK195.out 1).trans rfl; have hcz16_2 : wc.cell? ⟨gb195, 2, none⟩ = some (.string a0_2) := (blk_cell BK195.out 2).trans rfl; have hcz16_3 : wc.cell? ⟨gb195, 3, none⟩ = some (.int .i64 a0_3) := (blk_cell BK195.out 3).trans rfl; have hcz16_4 : wc.cell? ⟨gb195, 4, none⟩ = some (.int .i64 a0_4) := (blk_cell BK195.out 4).trans rfl; have hcz16_5 : wc.cell? ⟨gb195, 5, none⟩ = some (.slice A0_5 l0_5.length c0_5) := (blk_cell BK195.out 5).trans rfl; have hfz16_0 := blk_frozen BK195.out 0; have hfz16_1 := blk_frozen BK195.out 1; have hfz16_2 := blk_frozen BK195.out 2; have hfz16_3 := blk_frozen BK195.out 3; have hfz16_4 := blk_frozen BK195.out 4; have hfz16_5 := blk_frozen BK195.out 5; go_upto_block 0 with (fail)
      go_cut [] (fun wc => ∃ (kq : Nat), Aside0 (impl_Query_ok.j3 kq a1 x5_4 x6_4 a0_0 a0_1 a0_2 a0_3 a0_4 l0_5 = some r) ∧ Aside0 (kq ≤ kj9) ∧ Aside0 (wc.heap[gb195]? = some (.cells #[.int .i64 a0_0, .string a0_1, .string a0_2, .int .i64 a0_3, .int .i64 a0_4, (.slice A0_5 l0_5.length c0_5)] 29 (0, 0))) ∧ Aside0 (Below w.heap.size w wc))
      case first =>
       have H := HC15.out; clear HC15; by_cases c17 : a0_0 = 1
       ·exact u82_
       ·rw [if_neg c17] at H; have c17b0 : (a0_0 == 1) = false := beq_eq_false_iff_ne.mpr c17; have c17b1 : (a0_0 != 1) = true := bne_iff_ne.mpr c17; (first | rw [c17b0] | (simp only [i64_w, i32_w]; rw [c17b0]) | skip)
        by_cases c25 : a0_0 = 2
        ·exact u82_
        ·rw [if_neg c25] at H; have c25b0 : (a0_0 == 2) = false := beq_eq_false_iff_ne.mpr c25; have c25b1 : (a0_0 != 2) = true := bne_iff_ne.mpr c25; by_cases c46 : a0_0 = 3
         ·exact u82_
         ·rw [if_neg c46] at H; have c46b0 : (a0_0 == 3) = false := beq_eq_false_iff_ne.mpr c46; have c46b1 : (a0_0 != 3) = true := bne_iff_ne.mpr c46; by_cases c57 : a0_0 = 4
          ·exact u82_
          ·rw [if_neg c57] at H; have c57b0 : (a0_0 == 4) = false := beq_eq_false_iff_ne.mpr c57; have c57b1 : (a0_0 != 4) = true := bne_iff_ne.mpr c57; by_cases c74 : a0_0 = 5
           ·exact u82_
           ·rw [if_neg c74] at H; have c74b0 : (a0_0 == 5) = false := beq_eq_false_iff_ne.mpr c74; have c74b1 : (a0_0 != 5) = true := bne_iff_ne.mpr c74; by_cases c87 : a0_0 = 6
            ·exact u82_
            ·rw [if_neg c87] at H; have c87b0 : (a0_0 == 6) = false := beq_eq_false_iff_ne.mpr c87; have c87b1 : (a0_0 != 6) = true := bne_iff_ne.mpr c87; have HC97 := am_ H; clear H; go_upto_if 163 with (fail)
             go_cut [163] (fun v163 wc => ∃ (kq : Nat) (x163_96 : Bool), v163 = .bool x163_96 ∧ Aside0 (impl_Query_ok.j2 kq a1 x5_4 x6_4 x7_4 a0_0 x163_96 a0_0 a0_1 a0_2 a0_3 a0_4 l0_5 = some r) ∧ Aside0 (kq ≤ kj9) ∧ Aside0 (wc.heap[gb195]? = some (.cells #[.int .i64 a0_0, .string a0_1, .string a0_2, .int .i64 a0_3, .int .i64 a0_4, (.slice A0_5 l0_5.length c0_5)] 29 (0, 0))) ∧ Aside0 (Below w.heap.size w wc))
             case first =>
              have H := HC97.out; clear HC97; by_cases c98 : a0_0 = 7
              ·rw [if_pos c98] at H; have c98b0 : (a0_0 == 7) = true := beq_iff_eq.mpr c98; have c98b1 : (a0_0 != 7) = false := bne_eq_false_iff_eq.mpr c98; clear c98; (first | rw [c98b0] | (simp only [i64_w, i32_w]; rw [c98b0]) | skip)
               have H' := am_ H; clear H; go_wp2; go_meet
               case rel => exact ⟨_, ((a0_0 == 7)), u10_, H', ⟨by have := HJ4.out; have := HJ9.out; first | omega | exact Nat.le_refl _⟩, ⟨u11_⟩, ⟨u3_⟩⟩
              ·rw [if_neg c98] at H; have c98b0 : (a0_0 == 7) = false := beq_eq_false_iff_ne.mpr c98; have c98b1 : (a0_0 != 7) = true := bne_iff_ne.mpr c98; (first | rw [c98b0] | (simp only [i64_w, i32_w]; rw [c98b0]) | skip)
               have H' := am_ H; clear H; go_wp2; go_meet
               case rel => exact ⟨_, ((a0_0 == 8)), u10_, H', ⟨by have := HJ4.out; have := HJ9.out; first | omega | exact Nat.le_refl _⟩, ⟨u11_⟩, ⟨u3_⟩⟩
             case rest =>
              clear HC97; try clear c1
              try clear p2
              try clear c5
              try clear c7
              try clear c8
              try clear c9
              try clear c16
              try clear c57
              try clear c57b0
              try clear c57b1
              try clear c58
              try clear c74
              try clear c74b0
              try clear c74b1
              try clear c76
              try clear c77
              try clear c80
              try clear c82
              try clear c87
              try clear c87b0
              try clear c87b1
              try clear c89
              try clear c91
              try clear c92
              try clear c98
              try clear c98b0
              try clear c98b1
              try clear hcz78_0
              try clear hcz78_1
              try clear hcz78_2
              try clear hcz78_3
              try clear hcz78_4
              try clear hcz78_5
              try clear hcz83_0
              try clear hcz83_1
              try clear hcz83_2
              try clear hcz83_3
              try clear hcz83_4
              try clear hcz83_5
              try clear hcz84_0
              try clear hcz84_1
              try clear hcz84_2
              try clear hcz84_3
              try clear hcz84_4
              try clear hcz84_5
              try clear hcz85_0
              try clear hcz85_1
              try clear hcz85_2
              try clear hcz85_3
              try clear hcz85_4
              try clear hcz85_5
              try clear hcz86_0
              try clear hcz86_1
              try clear hcz86_2
              try clear hcz86_3
              try clear hcz86_4
              try clear hcz86_5
              try clear hcz93_0
              try clear hcz93_1
              try clear hcz93_2
              try clear hcz93_3
              try clear hcz93_4
              try clear hcz93_5
              try clear hcz94_0
              try clear hcz94_1
              try clear hcz94_2
              try clear hcz94_3
              try clear hcz94_4
              try clear hcz94_5
              try clear hcz95_0
              try clear hcz95_1
              try clear hcz95_2
              try clear hcz95_3
              try clear hcz95_4
              try clear hcz95_5
              try clear hcz96_0
              try clear hcz96_1
              try clear hcz96_2
              try clear hcz96_3
              try clear hcz96_4
              try clear hcz96_5
              try clear hfz78_0
              try clear hfz78_1
              try clear hfz78_2
              try clear hfz78_3
              try clear hfz78_4
              try clear hfz78_5
              try clear hfz83_0
              try clear hfz83_1
              try clear hfz83_2
              try clear hfz83_3
              try clear hfz83_4
              try clear hfz83_5
              try clear hfz84_0
              try clear hfz84_1
              try clear hfz84_2
              try clear hfz84_3
              try clear hfz84_4
              try clear hfz84_5
              try clear hfz85_0
              try clear hfz85_1
              try clear hfz85_2
              try clear hfz85_3
              try clear hfz85_4
              try clear hfz85_5
              try clear hfz86_0
              try clear hfz86_1
              try clear hfz86_2
              try clear hfz86_3
              try clear hfz86_4
              try clear hfz86_5
              try clear hfz93_0
              try clear hfz93_1
              try clear hfz93_2
              try clear hfz93_3
              try clear hfz93_4
              try clear hfz93_5
              try clear hfz94_0
              try clear hfz94_1
              try clear hfz94_2
              try clear hfz94_3
              try clear hfz94_4
              try clear hfz94_5
              try clear hfz95_0
              try clear hfz95_1
              try clear hfz95_2
              try clear hfz95_3
              try clear hfz95_4
              try clear hfz95_5
              try clear hfz96_0
              try clear hfz96_1
              try clear hfz96_2
              try clear hfz96_3
              try clear hfz96_4
              try clear hfz96_5
              obtain ⟨kq, x163_96, rfl, HA, HJ96, BK195, HB⟩ := hcut; cases kq with
              | zero => exact absurd HA.out (by simp [impl_Query_ok.j2])
              | succ kj96 =>
               have H := HA.out; clear HA; simp only [impl_Query_ok.j2] at H; by_cases c99 : x163_96 = true
               ·subst c99; rw [if_pos rfl] at H; replace H := Option.bind_eq_some_iff.mp H; obtain ⟨t207, A1000, H⟩ := H; replace H : (if t207 = true then (impl_Query_ok.j3 kj96 a1 x5_4 x6_4 a0_0 a0_1 a0_2 a0_3 a0_4 l0_5) else (some false)) = some r := H; have A100 := am_ A1000; clear A1000; by_cases c101 : t207 = true
                ·subst c101; rw [if_pos rfl] at H; have H' := am_ H; clear H; go_wp2_with (first | ((with_reducible refine gate_callee (f := 21) rfl ?_); refine goesL_ (some 167) rfl rfl Tryd.func21 u8_ rfl #[.int .i64 x7_4, .int .i64 2, .int .i64 4] rfl u4_ ?_; (with_reducible refine (impl_within.calls x7_4 2 4 true _ A100.out).mono ?_); rintro e w' ⟨rfl, ⟨nd, rfl⟩⟩; refine ⟨_, rfl, ?_⟩))
                 go_meet
                 case rel => exact ⟨_, H', ⟨by have := HJ4.out; have := HJ9.out; have := HJ96.out; first | omega | exact Nat.le_refl _⟩, ⟨u11_⟩, ⟨u3_⟩⟩
                ·replace c101 := Bool.eq_false_iff.mpr c101; subst c101; rw [if_neg (show ¬ (false = true) by decide)] at H; obtain rfl := Option.some.inj H; go_wp2_with (first | ((with_reducible refine gate_callee (f := 21) rfl ?_); refine goesL_ (some 167) rfl rfl Tryd.func21 u8_ rfl #[.int .i64 x7_4, .int .i64 2, .int .i64 4] rfl u4_ ?_; (with_reducible refine (impl_within.calls x7_4 2 4 false _ A100.out).mono ?_); rintro e w' ⟨rfl, ⟨nd, rfl⟩⟩; refine ⟨_, rfl, ?_⟩))
                 go_ret
                 exact ⟨u2_, u3_⟩
               ·replace c99 := Bool.eq_false_iff.mpr c99; subst c99; rw [if_neg (show ¬ (false = true) by decide)] at H; by_cases c102 : a0_0 = 9
                ·rw [if_pos c102] at H; have c102b0 : (a0_0 == 9) = true := beq_iff_eq.mpr c102; have c102b1 : (a0_0 != 9) = false := bne_eq_false_iff_eq.mpr c102; clear c102; by_cases c103 : x7_4 = 1
                 ·rw [if_pos c103] at H; have c103b0 : (x7_4 == 1) = true := beq_iff_eq.mpr c103; have c103b1 : (x7_4 != 1) = false := bne_eq_false_iff_eq.mpr c103; clear c103; have H' := am_ H; clear H; go_wp2; go_meet
                  case rel => exact ⟨_, H', ⟨by have := HJ4.out; have := HJ9.out; have := HJ96.out; first | omega | exact Nat.le_refl _⟩, ⟨u11_⟩, ⟨u3_⟩⟩
                 ·rw [if_neg c103] at H; have c103b0 : (x7_4 == 1) = false := beq_eq_false_iff_ne.mpr c103; have c103b1 : (x7_4 != 1) = true := bne_iff_ne.mpr c103; obtain rfl := Option.some.inj H; go_wp2; go_ret
                  exact ⟨u2_, u3_⟩
                ·rw [if_neg c102] at H; have c102b0 : (a0_0 == 9) = false := beq_eq_false_iff_ne.mpr c102; have c102b1 : (a0_0 != 9) = true := bne_iff_ne.mpr c102; obtain rfl := Option.some.inj H; go_wp2; go_ret
                 exact ⟨u2_, u3_⟩
      case rest =>
       clear HC15; try clear c1
       try clear c2
       try clear p2
       try clear c5
       try clear c7
       try clear c8
       try clear c9
       try clear c10
       try clear c16
       try clear c21
       try clear c57
       try clear c57b0
       try clear c57b1
       try clear c58
       try clear c74
       try clear c74b0
       try clear c74b1
       try clear c76
       try clear c77
       try clear c80
       try clear c82
       try clear c87
       try clear c87b0
       try clear c87b1
       try clear c89
       try clear c91
       try clear c92
       try clear c98
       try clear c98b0
       try clear c98b1
       try clear c99
       try clear c101
       try clear c102
       try clear c102b0
       try clear c102b1
       try clear c103
       try clear c103b0
       try clear c103b1
       try clear hcz78_0
       try clear hcz78_1
       try clear hcz78_2
       try clear hcz78_3
       try clear hcz78_4
       try clear hcz78_5
       try clear hcz83_0
       try clear hcz83_1
       try clear hcz83_2
       try clear hcz83_3
       try clear hcz83_4
       try clear hcz83_5
       try clear hcz84_0
       try clear hcz84_1
       try clear hcz84_2
       try clear hcz84_3
       try clear hcz84_4
       try clear hcz84_5
       try clear hcz85_0
       try clear hcz85_1
       try clear hcz85_2
       try clear hcz85_3
       try clear hcz85_4
       try clear hcz85_5
       try clear hcz86_0
       try clear hcz86_1
       try clear hcz86_2
       try clear hcz86_3
       try clear hcz86_4
       try clear hcz86_5
       try clear hcz93_0
       try clear hcz93_1
       try clear hcz93_2
       try clear hcz93_3
       try clear hcz93_4
       try clear hcz93_5
       try clear hcz94_0
       try clear hcz94_1
       try clear hcz94_2
       try clear hcz94_3
       try clear hcz94_4
       try clear hcz94_5
       try clear hcz95_0
       try clear hcz95_1
       try clear hcz95_2
       try clear hcz95_3
       try clear hcz95_4
       try clear hcz95_5
       try clear hcz96_0
       try clear hcz96_1
       try clear hcz96_2
       try clear hcz96_3
       try clear hcz96_4
       try clear hcz96_5
       try clear hfz78_0
       try clear hfz78_1
       try clear hfz78_2
       try clear hfz78_3
       try clear hfz78_4
       try clear hfz78_5
       try clear hfz83_0
       try clear hfz83_1
       try clear hfz83_2
       try clear hfz83_3
       try clear hfz83_4
       try clear hfz83_5
       try clear hfz84_0
       try clear hfz84_1
       try clear hfz84_2
       try clear hfz84_3
       try clear hfz84_4
       try clear hfz84_5
       try clear hfz85_0
       try clear hfz85_1
       try clear hfz85_2
       try clear hfz85_3
       try clear hfz85_4
       try clear hfz85_5
       try clear hfz86_0
       try clear hfz86_1
       try clear hfz86_2
       try clear hfz86_3
       try clear hfz86_4
       try clear hfz86_5
       try clear hfz93_0
       try clear hfz93_1
       try clear hfz93_2
       try clear hfz93_3
       try clear hfz93_4
       try clear hfz93_5
       try clear hfz94_0
       try clear hfz94_1
       try clear hfz94_2
       try clear hfz94_3
       try clear hfz94_4
       try clear hfz94_5
       try clear hfz95_0
       try clear hfz95_1
       try clear hfz95_2
       try clear hfz95_3
       try clear hfz95_4
       try clear hfz95_5
       try clear hfz96_0
       try clear hfz96_1
       try clear hfz96_2
       try clear hfz96_3
       try clear hfz96_4
       try clear hfz96_5
       try clear p2
       obtain ⟨kq, HA, HJ14, BK195, HB⟩ := hcut; cases kq with
       | zero => exact absurd HA.out (by simp [impl_Query_ok.j3])
       | succ kj14 =>
        have H := HA.out; clear HA; simp only [impl_Query_ok.j3] at H; have HC104 := am_ H; clear H; go_upto_region 26 with (fail)
        go_cut [181] (fun v181 wc => ∃ (kq : Nat) (x181_103 : Bool), v181 = .bool x181_103 ∧ Aside0 (impl_Query_ok.j4 kq a1 x181_103 a0_0 a0_1 a0_2 a0_3 a0_4 l0_5 = some r) ∧ Aside0 (kq ≤ kj14) ∧ Aside0 (wc.heap[gb195]? = some (.cells #[.int .i64 a0_0, .string a0_1, .string a0_2, .int .i64 a0_3, .int .i64 a0_4, (.slice A0_5 l0_5.length c0_5)] 29 (0, 0))) ∧ Aside0 (Below w.heap.size w wc))
        case first =>
         have H := HC104.out; clear HC104; by_cases c105 : a0_1.toList = ([] : List UInt8)
         ·rw [if_pos c105] at H; have c105b0 : (a0_1.toList == ([] : List UInt8)) = true := beq_iff_eq.mpr c105; have c105b1 : (a0_1.toList != ([] : List UInt8)) = false := bne_eq_false_iff_eq.mpr c105; clear c105; (first | rw [c105b0] | (simp only [i64_w, i32_w]; rw [c105b0]) | skip)
          by_cases c106 : x5_4 = true
          ·subst c106; rw [if_pos rfl] at H; have H' := am_ H; clear H; have hcz107_0 : wc.cell? ⟨gb195, 0, none⟩ = some (.int .i64 a0_0) := (blk_cell BK195.out 0).trans rfl; have hcz107_1 : wc.cell? ⟨gb195, 1, none⟩ = some (.string a0_1) := (blk_cell BK195.out 1).trans rfl; have hcz107_2 : wc.cell? ⟨gb195, 2, none⟩ = some (.string a0_2) := (blk_cell BK195.out 2).trans rfl; have hcz107_3 : wc.cell? ⟨gb195, 3, none⟩ = some (.int .i64 a0_3) := (blk_cell BK195.out 3).trans rfl; have hcz107_4 : wc.cell? ⟨gb195, 4, none⟩ = some (.int .i64 a0_4) := (blk_cell BK195.out 4).trans rfl; have hcz107_5 : wc.cell? ⟨gb195, 5, none⟩ = some (.slice A0_5 l0_5.length c0_5) := (blk_cell BK195.out 5).trans rfl; have hfz107_0 := blk_frozen BK195.out 0; have hfz107_1 := blk_frozen BK195.out 1; have hfz107_2 := blk_frozen BK195.out 2; have hfz107_3 := blk_frozen BK195.out 3; have hfz107_4 := blk_frozen BK195.out 4; have hfz107_5 := blk_frozen BK195.out 5; go_wp2; go_meet
           case rel => exact ⟨_, (true), u10_, H', ⟨u59_⟩, ⟨u11_⟩, ⟨u3_⟩⟩
          ·replace c106 := Bool.eq_false_iff.mpr c106; subst c106; rw [if_neg (show ¬ (false = true) by decide)] at H; have H' := am_ H; clear H; have hcz108_0 : wc.cell? ⟨gb195, 0, none⟩ = some (.int .i64 a0_0) := (blk_cell BK195.out 0).trans rfl; have hcz108_1 : wc.cell? ⟨gb195, 1, none⟩ = some (.string a0_1) := (blk_cell BK195.out 1).trans rfl; have hcz108_2 : wc.cell? ⟨gb195, 2, none⟩ = some (.string a0_2) := (blk_cell BK195.out 2).trans rfl; have hcz108_3 : wc.cell? ⟨gb195, 3, none⟩ = some (.int .i64 a0_3) := (blk_cell BK195.out 3).trans rfl; have hcz108_4 : wc.cell? ⟨gb195, 4, none⟩ = some (.int .i64 a0_4) := (blk_cell BK195.out 4).trans rfl; have hcz108_5 : wc.cell? ⟨gb195, 5, none⟩ = some (.slice A0_5 l0_5.length c0_5) := (blk_cell BK195.out 5).trans rfl; have hfz108_0 := blk_frozen BK195.out 0; have hfz108_1 := blk_frozen BK195.out 1; have hfz108_2 := blk_frozen BK195.out 2; have hfz108_3 := blk_frozen BK195.out 3; have hfz108_4 := blk_frozen BK195.out 4; have hfz108_5 := blk_frozen BK195.out 5; go_wp2; go_meet
           case rel => exact ⟨_, (x6_4), u10_, H', ⟨u59_⟩, ⟨u11_⟩, ⟨u3_⟩⟩
         ·rw [if_neg c105] at H; have c105b0 : (a0_1.toList == ([] : List UInt8)) = false := beq_eq_false_iff_ne.mpr c105; have c105b1 : (a0_1.toList != ([] : List UInt8)) = true := bne_iff_ne.mpr c105; (first | rw [c105b0] | (simp only [i64_w, i32_w]; rw [c105b0]) | skip)
          have H' := am_ H; clear H; have hcz109_0 : wc.cell? ⟨gb195, 0, none⟩ = some (.int .i64 a0_0) := (blk_cell BK195.out 0).trans rfl; have hcz109_1 : wc.cell? ⟨gb195, 1, none⟩ = some (.string a0_1) := (blk_cell BK195.out 1).trans rfl; have hcz109_2 : wc.cell? ⟨gb195, 2, none⟩ = some (.string a0_2) := (blk_cell BK195.out 2).trans rfl; have hcz109_3 : wc.cell? ⟨gb195, 3, none⟩ = some (.int .i64 a0_3) := (blk_cell BK195.out 3).trans rfl; have hcz109_4 : wc.cell? ⟨gb195, 4, none⟩ = some (.int .i64 a0_4) := (blk_cell BK195.out 4).trans rfl; have hcz109_5 : wc.cell? ⟨gb195, 5, none⟩ = some (.slice A0_5 l0_5.length c0_5) := (blk_cell BK195.out 5).trans rfl; have hfz109_0 := blk_frozen BK195.out 0; have hfz109_1 := blk_frozen BK195.out 1; have hfz109_2 := blk_frozen BK195.out 2; have hfz109_3 := blk_frozen BK195.out 3; have hfz109_4 := blk_frozen BK195.out 4; have hfz109_5 := blk_frozen BK195.out 5; go_wp2; go_meet
          case rel => exact ⟨_, (true), u10_, H', ⟨u59_⟩, ⟨u11_⟩, ⟨u3_⟩⟩
        case rest =>
         clear HC104; try clear c1
         try clear c2
         try clear p2
         try clear c5
         try clear c7
         try clear c8
         try clear c9
         try clear c10
         try clear c16
         try clear c21
         try clear c57
         try clear c57b0
         try clear c57b1
         try clear c58
         try clear c74
         try clear c74b0
         try clear c74b1
         try clear c76
         try clear c77
         try clear c80
         try clear c82
         try clear c87
         try clear c87b0
         try clear c87b1
         try clear c89
         try clear c91
         try clear c92
         try clear c98
         try clear c98b0
         try clear c98b1
         try clear c99
         try clear c101
         try clear c102
         try clear c102b0
         try clear c102b1
         try clear c103
         try clear c103b0
         try clear c103b1
         try clear c105
         try clear c105b0
         try clear c105b1
         try clear c106
         try clear hcz107_0
         try clear hcz107_1
         try clear hcz107_2
         try clear hcz107_3
         try clear hcz107_4
         try clear hcz107_5
         try clear hcz108_0
         try clear hcz108_1
         try clear hcz108_2
         try clear hcz108_3
         try clear hcz108_4
         try clear hcz108_5
         try clear hcz109_0
         try clear hcz109_1
         try clear hcz109_2
         try clear hcz109_3
         try clear hcz109_4
         try clear hcz109_5
         try clear hcz78_0
         try clear hcz78_1
         try clear hcz78_2
         try clear hcz78_3
         try clear hcz78_4
         try clear hcz78_5
         try clear hcz83_0
         try clear hcz83_1
         try clear hcz83_2
         try clear hcz83_3
         try clear hcz83_4
         try clear hcz83_5
         try clear hcz84_0
         try clear hcz84_1
         try clear hcz84_2
         try clear hcz84_3
         try clear hcz84_4
         try clear hcz84_5
         try clear hcz85_0
         try clear hcz85_1
         try clear hcz85_2
         try clear hcz85_3
         try clear hcz85_4
         try clear hcz85_5
         try clear hcz86_0
         try clear hcz86_1
         try clear hcz86_2
         try clear hcz86_3
         try clear hcz86_4
         try clear hcz86_5
         try clear hcz93_0
         try clear hcz93_1
         try clear hcz93_2
         try clear hcz93_3
         try clear hcz93_4
         try clear hcz93_5
         try clear hcz94_0
         try clear hcz94_1
         try clear hcz94_2
         try clear hcz94_3
         try clear hcz94_4
         try clear hcz94_5
         try clear hcz95_0
         try clear hcz95_1
         try clear hcz95_2
         try clear hcz95_3
         try clear hcz95_4
         try clear hcz95_5
         try clear hcz96_0
         try clear hcz96_1
         try clear hcz96_2
         try clear hcz96_3
         try clear hcz96_4
         try clear hcz96_5
         try clear hfz107_0
         try clear hfz107_1
         try clear hfz107_2
         try clear hfz107_3
         try clear hfz107_4
         try clear hfz107_5
         try clear hfz108_0
         try clear hfz108_1
         try clear hfz108_2
         try clear hfz108_3
         try clear hfz108_4
         try clear hfz108_5
         try clear hfz109_0
         try clear hfz109_1
         try clear hfz109_2
         try clear hfz109_3
         try clear hfz109_4
         try clear hfz109_5
         try clear hfz78_0
         try clear hfz78_1
         try clear hfz78_2
         try clear hfz78_3
         try clear hfz78_4
         try clear hfz78_5
         try clear hfz83_0
         try clear hfz83_1
         try clear hfz83_2
         try clear hfz83_3
         try clear hfz83_4
         try clear hfz83_5
         try clear hfz84_0
         try clear hfz84_1
         try clear hfz84_2
         try clear hfz84_3
         try clear hfz84_4
         try clear hfz84_5
         try clear hfz85_0
         try clear hfz85_1
         try clear hfz85_2
         try clear hfz85_3
         try clear hfz85_4
         try clear hfz85_5
         try clear hfz86_0
         try clear hfz86_1
         try clear hfz86_2
         try clear hfz86_3
         try clear hfz86_4
         try clear hfz86_5
         try clear hfz93_0
         try clear hfz93_1
         try clear hfz93_2
         try clear hfz93_3
         try clear hfz93_4
         try clear hfz93_5
         try clear hfz94_0
         try clear hfz94_1
         try clear hfz94_2
         try clear hfz94_3
         try clear hfz94_4
         try clear hfz94_5
         try clear hfz95_0
         try clear hfz95_1
         try clear hfz95_2
         try clear hfz95_3
         try clear hfz95_4
         try clear hfz95_5
         try clear hfz96_0
         try clear hfz96_1
         try clear hfz96_2
         try clear hfz96_3
         try clear hfz96_4
         try clear hfz96_5
         try clear p2
         obtain ⟨kq, x181_103, rfl, HA, HJ103, BK195, HB⟩ := hcut; cases kq with
         | zero => exact absurd HA.out (by simp [impl_Query_ok.j4])
         | succ kj103 =>
          have H := HA.out; clear HA; simp only [impl_Query_ok.j4] at H; by_cases c110 : x181_103 = true
          ·subst c110; rw [if_pos rfl] at H; obtain rfl := Option.some.inj H; go_wp2; go_ret
           exact ⟨u2_, u3_⟩
          ·replace c110 := Bool.eq_false_iff.mpr c110; subst c110; rw [if_neg (show ¬ (false = true) by decide)] at H; have H' := am_ H; clear H; have hcz111_0 : wc.cell? ⟨gb195, 0, none⟩ = some (.int .i64 a0_0) := (blk_cell BK195.out 0).trans rfl; have hcz111_1 : wc.cell? ⟨gb195, 1, none⟩ = some (.string a0_1) := (blk_cell BK195.out 1).trans rfl; have hcz111_2 : wc.cell? ⟨gb195, 2, none⟩ = some (.string a0_2) := (blk_cell BK195.out 2).trans rfl; have hcz111_3 : wc.cell? ⟨gb195, 3, none⟩ = some (.int .i64 a0_3) := (blk_cell BK195.out 3).trans rfl; have hcz111_4 : wc.cell? ⟨gb195, 4, none⟩ = some (.int .i64 a0_4) := (blk_cell BK195.out 4).trans rfl; have hcz111_5 : wc.cell? ⟨gb195, 5, none⟩ = some (.slice A0_5 l0_5.length c0_5) := (blk_cell BK195.out 5).trans rfl; have hfz111_0 := blk_frozen BK195.out 0; have hfz111_1 := blk_frozen BK195.out 1; have hfz111_2 := blk_frozen BK195.out 2; have hfz111_3 := blk_frozen BK195.out 3; have hfz111_4 := blk_frozen BK195.out 4; have hfz111_5 := blk_frozen BK195.out 5; go_wp2; go_loopg [185] kj103 (fun kq v185 w' => ∃ (x185_5 : Int), v185 = .int .i64 x185_5 ∧ Aside0 (impl_Query_ok.l0 kq a1 l0_5 (l0_5.length : Int) x185_5 = some r) ∧ Aside0 (kq ≤ kj103) ∧ Aside0 (w'.heap[gb195]? = some (.cells #[.int .i64 a0_0, .string a0_1, .string a0_2, .int .i64 a0_3, .int .i64 a0_4, (.slice A0_5 l0_5.length c0_5)] 29 (0, 0))) ∧ Aside0 (Below w.heap.size w w'))
           case atStart => exact ⟨(0), u10_, H', ⟨Nat.le_refl _⟩, ⟨u11_⟩, ⟨u3_⟩⟩
           case round =>
            clear H'; try clear c1
            try clear c2
            try clear p2
            try clear c5
            try clear c7
            try clear c8
            try clear c9
            try clear c10
            try clear c11
            try clear c16
            try clear c21
            try clear c57
            try clear c57b0
            try clear c57b1
            try clear c58
            try clear c74
            try clear c74b0
            try clear c74b1
            try clear c76
            try clear c77
            try clear c80
            try clear c82
            try clear c87
            try clear c87b0
            try clear c87b1
            try clear c89
            try clear c91
            try clear c92
            try clear c98
            try clear c98b0
            try clear c98b1
            try clear c99
            try clear c101
            try clear c102
            try clear c102b0
            try clear c102b1
            try clear c103
            try clear c103b0
            try clear c103b1
            try clear c105
            try clear c105b0
            try clear c105b1
            try clear c106
            try clear c110
            try clear hcz107_0
            try clear hcz107_1
            try clear hcz107_2
            try clear hcz107_3
            try clear hcz107_4
            try clear hcz107_5
            try clear hcz108_0
            try clear hcz108_1
            try clear hcz108_2
            try clear hcz108_3
            try clear hcz108_4
            try clear hcz108_5
            try clear hcz109_0
            try clear hcz109_1
            try clear hcz109_2
            try clear hcz109_3
            try clear hcz109_4
            try clear hcz109_5
            try clear hcz111_0
            try clear hcz111_1
            try clear hcz111_2
            try clear hcz111_3
            try clear hcz111_4
            try clear hcz111_5
            try clear hcz78_0
            try clear hcz78_1
            try clear hcz78_2
            try clear hcz78_3
            try clear hcz78_4
            try clear hcz78_5
            try clear hcz83_0
            try clear hcz83_1
            try clear hcz83_2
            try clear hcz83_3
            try clear hcz83_4
            try clear hcz83_5
            try clear hcz84_0
            try clear hcz84_1
            try clear hcz84_2
            try clear hcz84_3
            try clear hcz84_4
            try clear hcz84_5
            try clear hcz85_0
            try clear hcz85_1
            try clear hcz85_2
            try clear hcz85_3
            try clear hcz85_4
            try clear hcz85_5
            try clear hcz86_0
            try clear hcz86_1
            try clear hcz86_2
            try clear hcz86_3
            try clear hcz86_4
            try clear hcz86_5
            try clear hcz93_0
            try clear hcz93_1
            try clear hcz93_2
            try clear hcz93_3
            try clear hcz93_4
            try clear hcz93_5
            try clear hcz94_0
            try clear hcz94_1
            try clear hcz94_2
            try clear hcz94_3
            try clear hcz94_4
            try clear hcz94_5
            try clear hcz95_0
            try clear hcz95_1
            try clear hcz95_2
            try clear hcz95_3
            try clear hcz95_4
            try clear hcz95_5
            try clear hcz96_0
            try clear hcz96_1
            try clear hcz96_2
            try clear hcz96_3
            try clear hcz96_4
            try clear hcz96_5
            try clear hfz107_0
            try clear hfz107_1
            try clear hfz107_2
            try clear hfz107_3
            try clear hfz107_4
            try clear hfz107_5
            try clear hfz108_0
            try clear hfz108_1
            try clear hfz108_2
            try clear hfz108_3
            try clear hfz108_4
            try clear hfz108_5
            try clear hfz109_0
            try clear hfz109_1
            try clear hfz109_2
            try clear hfz109_3
            try clear hfz109_4
            try clear hfz109_5
            try clear hfz111_0
            try clear hfz111_1
            try clear hfz111_2
            try clear hfz111_3
            try clear hfz111_4
            try clear hfz111_5
            try clear hfz78_0
            try clear hfz78_1
            try clear hfz78_2
            try clear hfz78_3
            try clear hfz78_4
            try clear hfz78_5
            try clear hfz83_0
            try clear hfz83_1
            try clear hfz83_2
            try clear hfz83_3
            try clear hfz83_4
            try clear hfz83_5
            try clear hfz84_0
            try clear hfz84_1
            try clear hfz84_2
            try clear hfz84_3
            try clear hfz84_4
            try clear hfz84_5
            try clear hfz85_0
            try clear hfz85_1
            try clear hfz85_2
            try clear hfz85_3
            try clear hfz85_4
            try clear hfz85_5
            try clear hfz86_0
            try clear hfz86_1
            try clear hfz86_2
            try clear hfz86_3
            try clear hfz86_4
            try clear hfz86_5
            try clear hfz93_0
            try clear hfz93_1
            try clear hfz93_2
            try clear hfz93_3
            try clear hfz93_4
            try clear hfz93_5
            try clear hfz94_0
            try clear hfz94_1
            try clear hfz94_2
            try clear hfz94_3
            try clear hfz94_4
            try clear hfz94_5
            try clear hfz95_0
            try clear hfz95_1
            try clear hfz95_2
            try clear hfz95_3
            try clear hfz95_4
            try clear hfz95_5
            try clear hfz96_0
            try clear hfz96_1
            try clear hfz96_2
            try clear hfz96_3
            try clear hfz96_4
            try clear hfz96_5
            try clear p2
            obtain ⟨x185_5, rfl, HA, HK5, BK195, HB⟩ := hrel; cases gk with
            | zero => exact absurd HA.out (by simp [impl_Query_ok.l0])
            | succ k5 =>
             have H := HA.out; clear HA; simp only [impl_Query_ok.l0] at H; by_cases c112 : x185_5 < (l0_5.length : Int)
             ·rw [if_pos c112] at H; have c112b0 : decide (x185_5 < (l0_5.length : Int)) = true := decide_eq_true c112; clear c112; by_cases c113 : 0 ≤ x185_5
              ·rw [if_pos c113] at H; have c113b0 : decide (0 ≤ x185_5) = true := decide_eq_true c113; clear c113; by_cases c114 : x185_5 < (l0_5.length : Int)
               ·rw [if_pos c114] at H; have c114b0 : decide (x185_5 < (l0_5.length : Int)) = true := decide_eq_true c114; clear c114; replace H := Option.bind_eq_some_iff.mp H; obtain ⟨t210, A1150, H⟩ := H; replace H : (if t210 = true then (impl_Query_ok.l0 k5 a1 l0_5 (l0_5.length : Int) (wrap64 (x185_5 + 1))) else (some false)) = some r := H; have A115 := am_ A1150; clear A1150; by_cases c116 : t210 = true
                ·subst c116; rw [if_pos rfl] at H; have H' := am_ H; clear H; have p208 : 0 ≤ (x185_5 : Int) := of_decide_eq_true u7_; have q208 : x185_5 < (l0_5.length : Int) := of_decide_eq_true u7_; obtain ⟨ad208, A208_5, c208_5, e208, hx208_0, hx208_1, hx208_2, hx208_3, hx208_4, hx208_5, hl208_5, hi208_5⟩ := at_T29 HR0_5.out x185_5 p208 q208; cases e208; replace hx208_0 := (HB.out.cell (World.block_lt_of_cell? w _ hx208_0)).trans hx208_0; replace hx208_1 := (HB.out.cell (World.block_lt_of_cell? w _ hx208_1)).trans hx208_1; replace hx208_2 := (HB.out.cell (World.block_lt_of_cell? w _ hx208_2)).trans hx208_2; replace hx208_3 := (HB.out.cell (World.block_lt_of_cell? w _ hx208_3)).trans hx208_3; replace hx208_4 := (HB.out.cell (World.block_lt_of_cell? w _ hx208_4)).trans hx208_4; replace hx208_5 := (HB.out.cell (World.block_lt_of_cell? w _ hx208_5)).trans hx208_5; have HR208_5 := am_ hi208_5; have HC208_5 := am_ hl208_5; clear hi208_5 hl208_5; replace p208 := eq_true p208; replace q208 := eq_true q208; go_wp2_with (first | ((with_reducible refine gate_dst (N := 10) rfl ?_); (try (refine gate_guard u30_ ?_; dsimp only)); refine box_event ?hg (N := 10) ?hd (cs := #[.int .i64 0, .string (⟨#[]⟩ : ByteArray), .string (⟨#[]⟩ : ByteArray), .int .i64 0, .int .i64 0, .slice none 0 0]) (t := 29) ?hr ?_; (case hd => rfl); (case hg => rfl); (case hr => exact u26_); intro gb209 hg w117 hbox hb; have BK209 := am_ (hbox); have GW209 := am_ ((by rw [hg]; exact (below_size u3_) : w.heap.size ≤ gb209)); have GE209 := GW209; replace HB := am_ (below_step u3_ hb); have NB195_209 := am_ ((by rw [hg]; exact Nat.ne_of_lt (blk_lt (g := gb195) (o := .cells #[.int .i64 a0_0, .string a0_1, .string a0_2, .int .i64 a0_3, .int .i64 a0_4, .slice (some ad208) l0_5.length c0_5] 29 (0, 0)) u11_) : gb195 ≠ gb209)); have NB209_195 := am_ ((by rw [hg]; exact Nat.ne_of_gt (blk_lt (g := gb195) (o := .cells #[.int .i64 a0_0, .string a0_1, .string a0_2, .int .i64 a0_3, .int .i64 a0_4, .slice (some ad208) l0_5.length c0_5] 29 (0, 0)) u11_) : gb209 ≠ gb195)); replace BK195 := am_ (blk_below (g := gb195) (o := .cells #[.int .i64 a0_0, .string a0_1, .string a0_2, .int .i64 a0_3, .int .i64 a0_4, .slice (some ad208) l0_5.length c0_5] 29 (0, 0)) u11_ hb); clear hb hbox hg; have hnb118 := NB209_195.out; have hnc118 := NB195_209.out; have hcz119_0 : w117.cell? ⟨gb209, 0, none⟩ = some (.int .i64 0) := (blk_cell BK209.out 0).trans rfl; have hcz119_1 : w117.cell? ⟨gb209, 1, none⟩ = some (.string (⟨#[]⟩ : ByteArray)) := (blk_cell BK209.out 1).trans rfl; have hcz119_2 : w117.cell? ⟨gb209, 2, none⟩ = some (.string (⟨#[]⟩ : ByteArray)) := (blk_cell BK209.out 2).trans rfl; have hcz119_3 : w117.cell? ⟨gb209, 3, none⟩ = some (.int .i64 0) := (blk_cell BK209.out 3).trans rfl; have hcz119_4 : w117.cell? ⟨gb209, 4, none⟩ = some (.int .i64 0) := (blk_cell BK209.out 4).trans rfl; have hcz119_5 : w117.cell? ⟨gb209, 5, none⟩ = some (.slice none 0 0) := (blk_cell BK209.out 5).trans rfl; have hfz119_0 := blk_frozen BK209.out 0; have hfz119_1 := blk_frozen BK209.out 1; have hfz119_2 := blk_frozen BK209.out 2; have hfz119_3 := blk_frozen BK209.out 3; have hfz119_4 := blk_frozen BK209.out 4; have hfz119_5 := blk_frozen BK209.out 5) | ((with_reducible refine gate_callee (f := 12) rfl ?_); refine goesL_ (some 192) rfl rfl Tryd.func12 u8_ rfl #[.agg #[.int .i64 ((rd_T29 l0_5 x185_5).f0), .string ((rd_T29 l0_5 x185_5).f1), .string ((rd_T29 l0_5 x185_5).f2), .int .i64 ((rd_T29 l0_5 x185_5).f3), .int .i64 ((rd_T29 l0_5 x185_5).f4), .slice A208_5 ((rd_T29 l0_5 x185_5).f5).length c208_5], .int .i64 (wrap64 (a1 + 1))] rfl u4_ ?_; (with_reducible refine (ih k5 u57_ ((rd_T29 l0_5 x185_5).f0) ((rd_T29 l0_5 x185_5).f1) ((rd_T29 l0_5 x185_5).f2) ((rd_T29 l0_5 x185_5).f3) ((rd_T29 l0_5 x185_5).f4) _ _ ((rd_T29 l0_5 x185_5).f5) (wrap64 (a1 + 1)) true _ ?side1 ?side2 ?side3 A115.out).mono ?_); (case side1 => exact StopsIn.below HG_.out u28_); (case side2 => exact Kd.C_below HR208_5.out u28_); (case side3 => exact HC208_5.out); rintro e w120 ⟨rfl, hb⟩; refine ⟨_, rfl, ?_⟩; replace BK195 := am_ (blk_below (g := gb195) (o := .cells #[.int .i64 a0_0, .string a0_1, .string a0_2, .int .i64 a0_3, .int .i64 a0_4, .slice (some ad208) l0_5.length c0_5] 29 (0, 0)) u32_ hb); replace BK209 := am_ (blk_below (g := gb209) (o := .cells #[.int .i64 ((rd_T29 l0_5 x185_5).f0), .string ((rd_T29 l0_5 x185_5).f1), .string ((rd_T29 l0_5 x185_5).f2), .int .i64 ((rd_T29 l0_5 x185_5).f3), .int .i64 ((rd_T29 l0_5 x185_5).f4), .slice A208_5 ((rd_T29 l0_5 x185_5).f5).length c208_5] 29 (0, 0)) u22_ hb); replace HB := am_ (below_step u28_ hb); (try clear hb); (try clear hb2); (try clear hk); (try clear hi)))
                 go_roundg k5
                 case measure => have := HJ4.out; have := HJ9.out; have := HJ14.out; have := HJ103.out; have := HK5.out; omega
                 case rel => exact ⟨(wrap64 (x185_5 + 1)), u10_, H', ⟨u57_⟩, ⟨u11_⟩, ⟨u28_⟩⟩
                ·replace c116 := Bool.eq_false_iff.mpr c116; subst c116; rw [if_neg (show ¬ (false = true) by decide)] at H; obtain rfl := Option.some.inj H; have p208 : 0 ≤ (x185_5 : Int) := of_decide_eq_true u7_; have q208 : x185_5 < (l0_5.length : Int) := of_decide_eq_true u7_; obtain ⟨ad208, A208_5, c208_5, e208, hx208_0, hx208_1, hx208_2, hx208_3, hx208_4, hx208_5, hl208_5, hi208_5⟩ := at_T29 HR0_5.out x185_5 p208 q208; cases e208; replace hx208_0 := (HB.out.cell (World.block_lt_of_cell? w _ hx208_0)).trans hx208_0; replace hx208_1 := (HB.out.cell (World.block_lt_of_cell? w _ hx208_1)).trans hx208_1; replace hx208_2 := (HB.out.cell (World.block_lt_of_cell? w _ hx208_2)).trans hx208_2; replace hx208_3 := (HB.out.cell (World.block_lt_of_cell? w _ hx208_3)).trans hx208_3; replace hx208_4 := (HB.out.cell (World.block_lt_of_cell? w _ hx208_4)).trans hx208_4; replace hx208_5 := (HB.out.cell (World.block_lt_of_cell? w _ hx208_5)).trans hx208_5; have HR208_5 := am_ hi208_5; have HC208_5 := am_ hl208_5; clear hi208_5 hl208_5; replace p208 := eq_true p208; replace q208 := eq_true q208; go_wp2_with (first | ((with_reducible refine gate_dst (N := 10) rfl ?_); (try (refine gate_guard u30_ ?_; dsimp only)); refine box_event ?hg (N := 10) ?hd (cs := #[.int .i64 0, .string (⟨#[]⟩ : ByteArray), .string (⟨#[]⟩ : ByteArray), .int .i64 0, .int .i64 0, .slice none 0 0]) (t := 29) ?hr ?_; (case hd => rfl); (case hg => rfl); (case hr => exact u26_); intro gb209 hg w121 hbox hb; have BK209 := am_ (hbox); have GW209 := am_ ((by rw [hg]; exact (below_size u3_) : w.heap.size ≤ gb209)); have GE209 := GW209; replace HB := am_ (below_step u3_ hb); have NB195_209 := am_ ((by rw [hg]; exact Nat.ne_of_lt (blk_lt (g := gb195) (o := .cells #[.int .i64 a0_0, .string a0_1, .string a0_2, .int .i64 a0_3, .int .i64 a0_4, .slice (some ad208) l0_5.length c0_5] 29 (0, 0)) u11_) : gb195 ≠ gb209)); have NB209_195 := am_ ((by rw [hg]; exact Nat.ne_of_gt (blk_lt (g := gb195) (o := .cells #[.int .i64 a0_0, .string a0_1, .string a0_2, .int .i64 a0_3, .int .i64 a0_4, .slice (some ad208) l0_5.length c0_5] 29 (0, 0)) u11_) : gb209 ≠ gb195)); replace BK195 := am_ (blk_below (g := gb195) (o := .cells #[.int .i64 a0_0, .string a0_1, .string a0_2, .int .i64 a0_3, .int .i64 a0_4, .slice (some ad208) l0_5.length c0_5] 29 (0, 0)) u11_ hb); clear hb hbox hg; have hnb122 := NB209_195.out; have hnc122 := NB195_209.out; have hcz123_0 : w121.cell? ⟨gb209, 0, none⟩ = some (.int .i64 0) := (blk_cell BK209.out 0).trans rfl; have hcz123_1 : w121.cell? ⟨gb209, 1, none⟩ = some (.string (⟨#[]⟩ : ByteArray)) := (blk_cell BK209.out 1).trans rfl; have hcz123_2 : w121.cell? ⟨gb209, 2, none⟩ = some (.string (⟨#[]⟩ : ByteArray)) := (blk_cell BK209.out 2).trans rfl; have hcz123_3 : w121.cell? ⟨gb209, 3, none⟩ = some (.int .i64 0) := (blk_cell BK209.out 3).trans rfl; have hcz123_4 : w121.cell? ⟨gb209, 4, none⟩ = some (.int .i64 0) := (blk_cell BK209.out 4).trans rfl; have hcz123_5 : w121.cell? ⟨gb209, 5, none⟩ = some (.slice none 0 0) := (blk_cell BK209.out 5).trans rfl; have hfz123_0 := blk_frozen BK209.out 0; have hfz123_1 := blk_frozen BK209.out 1; have hfz123_2 := blk_frozen BK209.out 2; have hfz123_3 := blk_frozen BK209.out 3; have hfz123_4 := blk_frozen BK209.out 4; have hfz123_5 := blk_frozen BK209.out 5) | ((with_reducible refine gate_callee (f := 12) rfl ?_); refine goesL_ (some 192) rfl rfl Tryd.func12 u8_ rfl #[.agg #[.int .i64 ((rd_T29 l0_5 x185_5).f0), .string ((rd_T29 l0_5 x185_5).f1), .string ((rd_T29 l0_5 x185_5).f2), .int .i64 ((rd_T29 l0_5 x185_5).f3), .int .i64 ((rd_T29 l0_5 x185_5).f4), .slice A208_5 ((rd_T29 l0_5 x185_5).f5).length c208_5], .int .i64 (wrap64 (a1 + 1))] rfl u4_ ?_; (with_reducible refine (ih k5 u57_ ((rd_T29 l0_5 x185_5).f0) ((rd_T29 l0_5 x185_5).f1) ((rd_T29 l0_5 x185_5).f2) ((rd_T29 l0_5 x185_5).f3) ((rd_T29 l0_5 x185_5).f4) _ _ ((rd_T29 l0_5 x185_5).f5) (wrap64 (a1 + 1)) false _ ?side1 ?side2 ?side3 A115.out).mono ?_); (case side1 => exact StopsIn.below HG_.out u28_); (case side2 => exact Kd.C_below HR208_5.out u28_); (case side3 => exact HC208_5.out); rintro e w124 ⟨rfl, hb⟩; refine ⟨_, rfl, ?_⟩; replace BK195 := am_ (blk_below (g := gb195) (o := .cells #[.int .i64 a0_0, .string a0_1, .string a0_2, .int .i64 a0_3, .int .i64 a0_4, .slice (some ad208) l0_5.length c0_5] 29 (0, 0)) u32_ hb); replace BK209 := am_ (blk_below (g := gb209) (o := .cells #[.int .i64 ((rd_T29 l0_5 x185_5).f0), .string ((rd_T29 l0_5 x185_5).f1), .string ((rd_T29 l0_5 x185_5).f2), .int .i64 ((rd_T29 l0_5 x185_5).f3), .int .i64 ((rd_T29 l0_5 x185_5).f4), .slice A208_5 ((rd_T29 l0_5 x185_5).f5).length c208_5] 29 (0, 0)) u22_ hb); replace HB := am_ (below_step u28_ hb); (try clear hb); (try clear hb2); (try clear hk); (try clear hi)))
                 go_ret
                 exact ⟨u2_, u28_⟩
               ·rw [if_neg c114] at H; exact absurd H u51_
              ·rw [if_neg c113] at H; exact absurd H u51_
             ·rw [if_neg c112] at H; have c112b0 : decide (x185_5 < (l0_5.length : Int)) = false := decide_eq_false c112; clear c112; obtain rfl := Option.some.inj H; go_wp2; go_ret
              exact ⟨u2_, u3_⟩
end Go.Proofs.YthlabmfecmdlcaaDoor.PFnExactQueryOk
