/- Contracts of Go functions that the law FnExactQueryOk reaches: each is told as a plain Lean function, with the walk that shows it; no condition beyond what each states. Written by a program of this session round the kit's printer. -/
import Derived.Test.YthlabmfecmdlcaaDoorVPFnExactQueryOkx0
import Derived.Test.YthlabmfecmdlcaaDoorVPFnExactQueryOkx6
import Derived.Test.YthlabmfecmdlcaaDoorVPFnExactQueryOkx7
import Derived.Test.YthlabmfecmdlcaaDoorVPFnExactQueryOkx80
namespace Go.Proofs.YthlabmfecmdlcaaDoor.PFnExactQueryOk
open Go.RowKit Go.Proofs.YthlabmfecmdlcaaDoorW.PrintWords Go.Proofs.YthlabmfecmdlcaaDoorW.PrintLast Go.Proofs.YthlabmfecmdlcaaDoorW.PrintMore
attribute [local go_sem] isSome_setCell run_str_geq run_str_leq max2_int min2_int max_two min_two max_three min_three max_four min_four   -- for this text's walks alone
set_option linter.unusedVariables false
set_option linter.unusedSimpArgs false

set_option maxHeartbeats 8000000 in
set_option maxRecDepth 100000 in
theorem impl_Query_ok.calls_A (k : Nat) (ih : ∀ m_, m_ < k → impl_Query_ok.Stmt m_) : ∀ (a0_0 : Int) (a0_1 : ByteArray) (a0_2 : ByteArray) (a0_3 : Int) (a0_4 : Int) (A0_5 : Option Addr) (c0_5 : Nat) (l0_5 : List (S29)) (a1 : Int) (r : Bool) (w : World) (hG : StopsIn w) (hr0_5 : Kd.C k29 w A0_5 l0_5.length l0_5) (hc0_5 : l0_5.length ≤ c0_5) (h : impl_Query_ok.f k a0_0 a0_1 a0_2 a0_3 a0_4 l0_5 a1 = some r) (hV : Aside0 (a0_0 = 1 ∨ a0_0 = 2 ∨ a0_0 = 3 ∨ a0_0 = 5 ∨ a0_0 = 6)),
  Calls Tryd.prog 12 #[.agg #[.int .i64 a0_0, .string a0_1, .string a0_2, .int .i64 a0_3, .int .i64 a0_4, .slice A0_5 l0_5.length c0_5], .int .i64 a1] w fun e w' => e = .returned (.bool r) ∧ Below w.heap.size w w' := by
 intro a0_0 a0_1 a0_2 a0_3 a0_4 A0_5 c0_5 l0_5 a1 r w hG hr0_5 hc0_5 h hV; cases k with
 | zero => exact absurd h (by simp [impl_Query_ok.f])
 | succ k =>
 simp only [impl_Query_ok.f] at h; have hu29 := Tryd.underlying29; have HG_ := am_ hG; clear hG; have HR0_5 := am_ hr0_5; have HC0_5 := am_ hc0_5; clear hr0_5 hc0_5; have HB := am_ (Below.refl w.heap.size w); have H : (if a1 > 4 then (some false) else (if a0_3 = 0 then (impl_Query_ok.j0 k a1 (a0_2.toList != ([] : List UInt8)) (a0_4 != 0) (l0_5.length : Int) a0_0 a0_1 a0_2 a0_3 a0_4 l0_5) else (impl_Query_ok.j0 k a1 (a0_2.toList != ([] : List UInt8)) true (l0_5.length : Int) a0_0 a0_1 a0_2 a0_3 a0_4 l0_5))) = some r := h; clear h; by_cases c3 : a1 > 4
 ·rw [if_pos c3] at H; have c3b0 : decide (4 < a1) = true := decide_eq_true c3; clear c3; obtain rfl := Option.some.inj H; go_enter Tryd.func12, Tryd.ntmps12
  go_wp2_with (first | ((with_reducible refine gate_dst (N := 2) rfl ?_); (try (refine gate_guard u30_ ?_; dsimp only)); refine box_event ?hg (N := 2) ?hd (cs := #[.int .i64 a0_0, .string a0_1, .string a0_2, .int .i64 a0_3, .int .i64 a0_4, .slice A0_5 l0_5.length c0_5]) (t := 29) ?hr ?_; (case hd => rfl); (case hg => rfl); (case hr => exact u26_); intro gb195 hg w4 hbox hb; have BK195 := am_ (hbox); have GW195 := am_ ((by rw [hg]; exact (below_size u1_) : w.heap.size ≤ gb195)); have GE195 := GW195; replace HB := am_ (below_step u1_ hb); clear hb hbox hg))
  go_ret
  exact ⟨u2_, u3_⟩
 ·rw [if_neg c3] at H; have c3b0 : decide (4 < a1) = false := decide_eq_false c3; clear c3; have HC5 := am_ H; clear H; go_enter Tryd.func12, Tryd.ntmps12
  go_upto_region 3 with (first | ((with_reducible refine gate_dst (N := 2) rfl ?_); (try (refine gate_guard u30_ ?_; dsimp only)); refine box_event ?hg (N := 2) ?hd (cs := #[.int .i64 a0_0, .string a0_1, .string a0_2, .int .i64 a0_3, .int .i64 a0_4, .slice A0_5 l0_5.length c0_5]) (t := 29) ?hr ?_; (case hd => rfl); (case hg => rfl); (case hr => exact u26_); intro gb195 hg w6 hbox hb; have BK195 := am_ (hbox); have GW195 := am_ ((by rw [hg]; exact (below_size u1_) : w.heap.size ≤ gb195)); have GE195 := GW195; replace HB := am_ (below_step u1_ hb); clear hb hbox hg))
  (try simp only [Act.put, List.setIfInBounds_toArray, List.set_cons_zero, List.set_cons_succ])
  go_cut [5, 6, 7] (fun v5 v6 v7 wc => ∃ (kq : Nat) (x5_4 : Bool) (x6_4 : Bool) (x7_4 : Int), v5 = .bool x5_4 ∧ v6 = .bool x6_4 ∧ v7 = .int .i64 x7_4 ∧ Aside0 (impl_Query_ok.j0 kq a1 x5_4 x6_4 x7_4 a0_0 a0_1 a0_2 a0_3 a0_4 l0_5 = some r) ∧ Aside0 (kq ≤ k) ∧ Aside0 (wc.heap[gb195]? = some (.cells #[.int .i64 a0_0, .string a0_1, .string a0_2, .int .i64 a0_3, .int .i64 a0_4, (.slice A0_5 l0_5.length c0_5)] 29 (0, 0))) ∧ Aside0 (Below w.heap.size w wc))
  case first =>
   have H := HC5.out; clear HC5; by_cases c7 : a0_3 = 0
   ·rw [if_pos c7] at H; have c7b0 : (a0_3 == 0) = true := beq_iff_eq.mpr c7; have c7b1 : (a0_3 != 0) = false := bne_eq_false_iff_eq.mpr c7; clear c7; (first | rw [c7b0] | (simp only [i64_w, i32_w]; rw [c7b0]) | skip)
    have H' := am_ H; clear H; try go_wp2
    replace BK195 := am_ (blk_drew BK195.out); replace HB := am_ (below_drew1 HB.out); refine start_ (n := 17) (S := fun w' => w'.cell? ⟨gb195, 0, none⟩ = some (.int .i64 a0_0) ∧ w'.cell? ⟨gb195, 1, none⟩ = some (.string a0_1) ∧ w'.cell? ⟨gb195, 2, none⟩ = some (.string a0_2) ∧ w'.cell? ⟨gb195, 3, none⟩ = some (.int .i64 a0_3) ∧ w'.cell? ⟨gb195, 4, none⟩ = some (.int .i64 a0_4) ∧ w'.cell? ⟨gb195, 5, none⟩ = some (.slice A0_5 l0_5.length c0_5)) (ds := []) (bm_ 17 0) u8_ rfl rfl ⟨(blk_cell BK195.out 0).trans rfl, (blk_cell BK195.out 1).trans rfl, (blk_cell BK195.out 2).trans rfl, (blk_cell BK195.out 3).trans rfl, (blk_cell BK195.out 4).trans rfl, (blk_cell BK195.out 5).trans rfl⟩ (fun hHeld => ?_); refine with_tabW impl_Query_ok.tab3 impl_Query_ok.bits3 (fun HT_ HW_ => ?_); generalize w6.drew = w8 at BK195 HB hHeld ⊢; refine pure_ (i := 0) (N := some 13) (v := ?_) (a' := ?_) (bm_ 17 1) rfl rfl (any_of HT_.out u8_) (fun _ _ _ h => h) (Or.inl ⟨u30_, ?_⟩) ?_ ?_; rotate_left
    ·exact u5_
    rotate_left
    ·exact u0_
    refine pure_ (i := 3) (N := some 16) (v := ?_) (a' := ?_) (bm_ 17 9) rfl rfl (any_of HT_.out u8_) (fun _ _ _ h => h) (Or.inl ⟨u30_, ?_⟩) ?_ ?_; rotate_left
    ·exact u5_
    rotate_left
    ·exact u0_
    refine pure_ (i := 11) (N := some 24) (v := ?_) (a' := ?_) (bm_ 17 2057) rfl rfl (any_of HT_.out u8_) (fun _ _ _ h => h) (Or.inl ⟨u30_, ?_⟩) ?_ ?_; rotate_left
    ·exact u5_
    rotate_left
    ·exact u0_
    refine take_ (i := 1) (N := some 14) (v := ?_) (a' := ?_) (bm_ 17 2059) rfl rfl (take_ofW HT_.out HW_.out u8_) (fun _ _ _ h => h) (Or.inl ⟨u30_, ?_⟩) hHeld ?_ ?_; rotate_left
    ·exact u17_
    rotate_left
    ·exact u0_
    refine pure_ (i := 2) (N := some 15) (v := ?_) (a' := ?_) (bm_ 17 2063) rfl rfl (any_of HT_.out u8_) (fun _ _ _ h => h) (Or.inl ⟨u30_, ?_⟩) ?_ ?_; rotate_left
    ·exact u5_
    rotate_left
    ·exact u0_
    refine take_ (i := 4) (N := some 17) (v := ?_) (a' := ?_) (bm_ 17 2079) rfl rfl (take_ofW HT_.out HW_.out u8_) (fun _ _ _ h => h) (Or.inl ⟨u30_, ?_⟩) hHeld ?_ ?_; rotate_left
    ·exact u17_
    rotate_left
    ·exact u0_
    refine pure_ (i := 5) (N := some 18) (v := ?_) (a' := ?_) (bm_ 17 2111) rfl rfl (any_of HT_.out u8_) (fun _ _ _ h => h) (Or.inl ⟨u30_, ?_⟩) ?_ ?_; rotate_left
    ·exact u5_
    rotate_left
    ·exact u0_
    refine pure_ (i := 6) (N := some 19) (v := ?_) (a' := ?_) (bm_ 17 2175) rfl rfl (any_of HT_.out u8_) (fun _ _ _ h => h) (Or.inl ⟨u30_, ?_⟩) ?_ ?_; rotate_left
    ·exact u5_
    rotate_left
    ·exact u0_
    refine pure_ (i := 7) (N := some 20) (v := ?_) (a' := ?_) (bm_ 17 2303) rfl rfl (any_of HT_.out u8_) (fun _ _ _ h => h) (Or.inl ⟨u30_, ?_⟩) ?_ ?_; rotate_left
    ·exact u5_
    rotate_left
    ·exact u0_
    refine pure_ (i := 14) (N := some 5) (v := ?_) (a' := ?_) (bm_ 17 18687) rfl rfl (any_of HT_.out u8_) (fun _ _ _ h => h) (Or.inl ⟨u30_, ?_⟩) ?_ ?_; rotate_left
    ·exact u5_
    rotate_left
    ·exact u0_
    refine take_ (i := 8) (N := some 21) (v := ?_) (a' := ?_) (bm_ 17 18943) rfl rfl (take_ofW HT_.out HW_.out u8_) (fun _ _ _ h => h) (Or.inl ⟨u30_, ?_⟩) hHeld ?_ ?_; rotate_left
    ·exact u17_
    rotate_left
    ·exact u0_
    refine pure_ (i := 9) (N := some 22) (v := ?_) (a' := ?_) (bm_ 17 19455) rfl rfl (any_of HT_.out u8_) (fun _ _ _ h => h) (Or.inl ⟨u30_, ?_⟩) ?_ ?_; rotate_left
    ·exact u5_
    rotate_left
    ·exact u0_
    refine pure_ (i := 10) (N := some 23) (v := ?_) (a' := ?_) (bm_ 17 20479) rfl rfl (any_of HT_.out u8_) (fun _ _ _ h => h) (Or.inl ⟨u30_, ?_⟩) ?_ ?_; rotate_left
    ·exact u5_
    rotate_left
    ·exact u0_
    refine pure_ (i := 15) (N := some 6) (v := ?_) (a' := ?_) (bm_ 17 53247) rfl rfl (any_of HT_.out u8_) (fun _ _ _ h => h) (Or.inl ⟨u30_, ?_⟩) ?_ ?_; rotate_left
    ·exact u5_
    rotate_left
    ·exact u0_
    refine take_ (i := 12) (N := some 25) (v := ?_) (a' := ?_) (bm_ 17 57343) rfl rfl (take_ofW HT_.out HW_.out u8_) (fun _ _ _ h => h) (Or.inl ⟨u30_, ?_⟩) hHeld ?_ ?_; rotate_left
    ·exact u17_
    rotate_left
    ·exact u0_
    refine pure_ (i := 13) (N := some 26) (v := ?_) (a' := ?_) (bm_ 17 65535) rfl rfl (any_of HT_.out u8_) (fun _ _ _ h => h) (Or.inl ⟨u30_, ?_⟩) ?_ ?_; rotate_left
    ·exact u5_
    rotate_left
    ·exact u0_
    refine pure_ (i := 16) (N := some 7) (v := ?_) (a' := ?_) (bm_ 17 131071) rfl rfl (any_of HT_.out u8_) (fun _ _ _ h => h) (Or.inl ⟨u30_, ?_⟩) ?_ ?_; rotate_left
    ·exact u5_
    rotate_left
    ·exact u0_
    refine done_ (done_of HT_.out u8_) ?_; try go_wp2
    go_meet
    case rel => exact ⟨_, ((a0_2.toList != ([] : List UInt8))), ((a0_4 != 0)), ((l0_5.length : Int)), u10_, u10_, u10_, H', ⟨u46_⟩, ⟨u11_⟩, ⟨u3_⟩⟩
   ·rw [if_neg c7] at H; have c7b0 : (a0_3 == 0) = false := beq_eq_false_iff_ne.mpr c7; have c7b1 : (a0_3 != 0) = true := bne_iff_ne.mpr c7; (first | rw [c7b0] | (simp only [i64_w, i32_w]; rw [c7b0]) | skip)
    have H' := am_ H; clear H; try go_wp2
    replace BK195 := am_ (blk_drew BK195.out); replace HB := am_ (below_drew1 HB.out); refine start_ (n := 17) (S := fun w' => w'.cell? ⟨gb195, 0, none⟩ = some (.int .i64 a0_0) ∧ w'.cell? ⟨gb195, 1, none⟩ = some (.string a0_1) ∧ w'.cell? ⟨gb195, 2, none⟩ = some (.string a0_2) ∧ w'.cell? ⟨gb195, 3, none⟩ = some (.int .i64 a0_3) ∧ w'.cell? ⟨gb195, 4, none⟩ = some (.int .i64 a0_4) ∧ w'.cell? ⟨gb195, 5, none⟩ = some (.slice A0_5 l0_5.length c0_5)) (ds := []) (bm_ 17 0) u8_ rfl rfl ⟨(blk_cell BK195.out 0).trans rfl, (blk_cell BK195.out 1).trans rfl, (blk_cell BK195.out 2).trans rfl, (blk_cell BK195.out 3).trans rfl, (blk_cell BK195.out 4).trans rfl, (blk_cell BK195.out 5).trans rfl⟩ (fun hHeld => ?_); refine with_tabW impl_Query_ok.tab3 impl_Query_ok.bits3 (fun HT_ HW_ => ?_); generalize w6.drew = w9 at BK195 HB hHeld ⊢; refine pure_ (i := 0) (N := some 13) (v := ?_) (a' := ?_) (bm_ 17 1) rfl rfl (any_of HT_.out u8_) (fun _ _ _ h => h) (Or.inl ⟨u30_, ?_⟩) ?_ ?_; rotate_left
    ·exact u5_
    rotate_left
    ·exact u0_
    refine pure_ (i := 3) (N := some 16) (v := ?_) (a' := ?_) (bm_ 17 9) rfl rfl (any_of HT_.out u8_) (fun _ _ _ h => h) (Or.inl ⟨u30_, ?_⟩) ?_ ?_; rotate_left
    ·exact u5_
    rotate_left
    ·exact u0_
    refine pure_ (i := 11) (N := some 24) (v := ?_) (a' := ?_) (bm_ 17 2057) rfl rfl (any_of HT_.out u8_) (fun _ _ _ h => h) (Or.inl ⟨u30_, ?_⟩) ?_ ?_; rotate_left
    ·exact u5_
    rotate_left
    ·exact u0_
    refine take_ (i := 1) (N := some 14) (v := ?_) (a' := ?_) (bm_ 17 2059) rfl rfl (take_ofW HT_.out HW_.out u8_) (fun _ _ _ h => h) (Or.inl ⟨u30_, ?_⟩) hHeld ?_ ?_; rotate_left
    ·exact u17_
    rotate_left
    ·exact u0_
    refine pure_ (i := 2) (N := some 15) (v := ?_) (a' := ?_) (bm_ 17 2063) rfl rfl (any_of HT_.out u8_) (fun _ _ _ h => h) (Or.inl ⟨u30_, ?_⟩) ?_ ?_; rotate_left
    ·exact u5_
    rotate_left
    ·exact u0_
    refine take_ (i := 4) (N := some 17) (v := ?_) (a' := ?_) (bm_ 17 2079) rfl rfl (take_ofW HT_.out HW_.out u8_) (fun _ _ _ h => h) (Or.inl ⟨u30_, ?_⟩) hHeld ?_ ?_; rotate_left
    ·exact u17_
    rotate_left
    ·exact u0_
    refine pure_ (i := 5) (N := some 18) (v := ?_) (a' := ?_) (bm_ 17 2111) rfl rfl (any_of HT_.out u8_) (fun _ _ _ h => h) (Or.inl ⟨u30_, ?_⟩) ?_ ?_; rotate_left
    ·exact u5_
    rotate_left
    ·exact u0_
    refine pure_ (i := 6) (N := some 19) (v := ?_) (a' := ?_) (bm_ 17 2175) rfl rfl (any_of HT_.out u8_) (fun _ _ _ h => h) (Or.inl ⟨u30_, ?_⟩) ?_ ?_; rotate_left
    ·exact u5_
    rotate_left
    ·exact u0_
    refine pure_ (i := 7) (N := some 20) (v := undef) (a' := ?_) (bm_ 17 2303) rfl rfl (any_of HT_.out u8_) (fun _ _ _ h => h) (Or.inr ⟨u30_, rfl⟩) ?_ ?_; rotate_left
    ·exact u0_
    refine pure_ (i := 8) (N := some 21) (v := undef) (a' := ?_) (bm_ 17 2559) rfl rfl (any_of HT_.out u8_) (fun _ _ _ h => h) (Or.inr ⟨u30_, rfl⟩) ?_ ?_; rotate_left
    ·exact u0_
    refine pure_ (i := 9) (N := some 22) (v := undef) (a' := ?_) (bm_ 17 3071) rfl rfl (any_of HT_.out u8_) (fun _ _ _ h => h) (Or.inr ⟨u30_, rfl⟩) ?_ ?_; rotate_left
    ·exact u0_
    refine pure_ (i := 10) (N := some 23) (v := ?_) (a' := ?_) (bm_ 17 4095) rfl rfl (any_of HT_.out u8_) (fun _ _ _ h => h) (Or.inl ⟨u30_, ?_⟩) ?_ ?_; rotate_left
    ·exact u5_
    rotate_left
    ·exact u0_
    refine pure_ (i := 14) (N := some 5) (v := ?_) (a' := ?_) (bm_ 17 20479) rfl rfl (any_of HT_.out u8_) (fun _ _ _ h => h) (Or.inl ⟨u30_, ?_⟩) ?_ ?_; rotate_left
    ·exact u5_
    rotate_left
    ·exact u0_
    refine pure_ (i := 15) (N := some 6) (v := ?_) (a' := ?_) (bm_ 17 53247) rfl rfl (any_of HT_.out u8_) (fun _ _ _ h => h) (Or.inl ⟨u30_, ?_⟩) ?_ ?_; rotate_left
    ·exact u5_
    rotate_left
    ·exact u0_
    refine take_ (i := 12) (N := some 25) (v := ?_) (a' := ?_) (bm_ 17 57343) rfl rfl (take_ofW HT_.out HW_.out u8_) (fun _ _ _ h => h) (Or.inl ⟨u30_, ?_⟩) hHeld ?_ ?_; rotate_left
    ·exact u17_
    rotate_left
    ·exact u0_
    refine pure_ (i := 13) (N := some 26) (v := ?_) (a' := ?_) (bm_ 17 65535) rfl rfl (any_of HT_.out u8_) (fun _ _ _ h => h) (Or.inl ⟨u30_, ?_⟩) ?_ ?_; rotate_left
    ·exact u5_
    rotate_left
    ·exact u0_
    refine pure_ (i := 16) (N := some 7) (v := ?_) (a' := ?_) (bm_ 17 131071) rfl rfl (any_of HT_.out u8_) (fun _ _ _ h => h) (Or.inl ⟨u30_, ?_⟩) ?_ ?_; rotate_left
    ·exact u5_
    rotate_left
    ·exact u0_
    refine done_ (done_of HT_.out u8_) ?_; try go_wp2
    go_meet
    case rel => exact ⟨_, ((a0_2.toList != ([] : List UInt8))), (true), ((l0_5.length : Int)), u10_, u10_, u10_, H', ⟨u46_⟩, ⟨u11_⟩, ⟨u3_⟩⟩
  case rest =>
   clear HC5; try clear c1
   try clear p2
   try clear c3
   try clear c3b0
   try clear c7
   try clear c7b0
   try clear c7b1
   obtain ⟨kq, x5_4, x6_4, x7_4, rfl, rfl, rfl, HA, HJ4, BK195, HB⟩ := hcut; cases kq with
   | zero => exact absurd HA.out (by simp [impl_Query_ok.j0])
   | succ kj4 =>
    have H := HA.out; clear HA; simp only [impl_Query_ok.j0] at H; have HC10 := am_ H; clear H; go_upto_region 4 with (fail)
    go_cut [8] (fun v8 wc => ∃ (kq : Nat) (x8_9 : Bool), v8 = .bool x8_9 ∧ Aside0 (impl_Query_ok.j1 kq a1 x5_4 x6_4 x7_4 x8_9 a0_0 a0_1 a0_2 a0_3 a0_4 l0_5 = some r) ∧ Aside0 (kq ≤ kj4) ∧ Aside0 (wc.heap[gb195]? = some (.cells #[.int .i64 a0_0, .string a0_1, .string a0_2, .int .i64 a0_3, .int .i64 a0_4, (.slice A0_5 l0_5.length c0_5)] 29 (0, 0))) ∧ Aside0 (Below w.heap.size w wc))
    case first =>
     have H := HC10.out; clear HC10; by_cases c11 : a0_1.toList = ([] : List UInt8)
     ·rw [if_pos c11] at H; have c11b0 : (a0_1.toList == ([] : List UInt8)) = true := beq_iff_eq.mpr c11; have c11b1 : (a0_1.toList != ([] : List UInt8)) = false := bne_eq_false_iff_eq.mpr c11; clear c11; (first | rw [c11b0] | (simp only [i64_w, i32_w]; rw [c11b0]) | skip)
      have H' := am_ H; clear H; have hcz12_0 : wc.cell? ⟨gb195, 0, none⟩ = some (.int .i64 a0_0) := (blk_cell BK195.out 0).trans rfl; have hcz12_1 : wc.cell? ⟨gb195, 1, none⟩ = some (.string a0_1) := (blk_cell BK195.out 1).trans rfl; have hcz12_2 : wc.cell? ⟨gb195, 2, none⟩ = some (.string a0_2) := (blk_cell BK195.out 2).trans rfl; have hcz12_3 : wc.cell? ⟨gb195, 3, none⟩ = some (.int .i64 a0_3) := (blk_cell BK195.out 3).trans rfl; have hcz12_4 : wc.cell? ⟨gb195, 4, none⟩ = some (.int .i64 a0_4) := (blk_cell BK195.out 4).trans rfl; have hcz12_5 : wc.cell? ⟨gb195, 5, none⟩ = some (.slice A0_5 l0_5.length c0_5) := (blk_cell BK195.out 5).trans rfl; have hfz12_0 := blk_frozen BK195.out 0; have hfz12_1 := blk_frozen BK195.out 1; have hfz12_2 := blk_frozen BK195.out 2; have hfz12_3 := blk_frozen BK195.out 3; have hfz12_4 := blk_frozen BK195.out 4; have hfz12_5 := blk_frozen BK195.out 5; go_wp2; go_meet
      case rel => exact ⟨_, (true), u10_, H', ⟨u49_⟩, ⟨u11_⟩, ⟨u3_⟩⟩
     ·rw [if_neg c11] at H; have c11b0 : (a0_1.toList == ([] : List UInt8)) = false := beq_eq_false_iff_ne.mpr c11; have c11b1 : (a0_1.toList != ([] : List UInt8)) = true := bne_iff_ne.mpr c11; (first | rw [c11b0] | (simp only [i64_w, i32_w]; rw [c11b0]) | skip)
      replace H := Option.bind_eq_some_iff.mp H; obtain ⟨t196, A130, H⟩ := H; replace H : (impl_Query_ok.j1 kj4 a1 x5_4 x6_4 x7_4 t196 a0_0 a0_1 a0_2 a0_3 a0_4 l0_5) = some r := H; have A13 := am_ A130; clear A130; have H' := am_ H; clear H; have hcz14_0 : wc.cell? ⟨gb195, 0, none⟩ = some (.int .i64 a0_0) := (blk_cell BK195.out 0).trans rfl; have hcz14_1 : wc.cell? ⟨gb195, 1, none⟩ = some (.string a0_1) := (blk_cell BK195.out 1).trans rfl; have hcz14_2 : wc.cell? ⟨gb195, 2, none⟩ = some (.string a0_2) := (blk_cell BK195.out 2).trans rfl; have hcz14_3 : wc.cell? ⟨gb195, 3, none⟩ = some (.int .i64 a0_3) := (blk_cell BK195.out 3).trans rfl; have hcz14_4 : wc.cell? ⟨gb195, 4, none⟩ = some (.int .i64 a0_4) := (blk_cell BK195.out 4).trans rfl; have hcz14_5 : wc.cell? ⟨gb195, 5, none⟩ = some (.slice A0_5 l0_5.length c0_5) := (blk_cell BK195.out 5).trans rfl; have hfz14_0 := blk_frozen BK195.out 0; have hfz14_1 := blk_frozen BK195.out 1; have hfz14_2 := blk_frozen BK195.out 2; have hfz14_3 := blk_frozen BK195.out 3; have hfz14_4 := blk_frozen BK195.out 4; have hfz14_5 := blk_frozen BK195.out 5; go_wp2_with (first | (go_at_call 16; (with_reducible refine (impl_NameOk.calls kj4 a0_1 t196 _ A13.out).mono ?_); rintro e w' ⟨rfl, ⟨nd, rfl⟩⟩))
      go_meet
      case rel => exact ⟨_, (t196), u10_, H', ⟨u49_⟩, ⟨u11_⟩, ⟨u3_⟩⟩
    case rest =>
     clear HC10; try clear c1
     try clear p2
     try clear c3
     try clear c3b0
     try clear c7
     try clear c7b0
     try clear c7b1
     try clear c11
     try clear c11b0
     try clear c11b1
     try clear c12
     try clear hcz12_0
     try clear hcz12_1
     try clear hcz12_2
     try clear hcz12_3
     try clear hcz12_4
     try clear hcz12_5
     try clear hcz14_0
     try clear hcz14_1
     try clear hcz14_2
     try clear hcz14_3
     try clear hcz14_4
     try clear hcz14_5
     try clear hfz12_0
     try clear hfz12_1
     try clear hfz12_2
     try clear hfz12_3
     try clear hfz12_4
     try clear hfz12_5
     try clear hfz14_0
     try clear hfz14_1
     try clear hfz14_2
     try clear hfz14_3
     try clear hfz14_4
     try clear hfz14_5
     try clear p2
     obtain ⟨kq, x8_9, rfl, HA, HJ9, BK195, HB⟩ := hcut; cases kq with
     | zero => exact absurd HA.out (by simp [impl_Query_ok.j1])
     | succ kj9 =>
      have H := HA.out; clear HA; simp only [impl_Query_ok.j1] at H; have HC15 := am_ H; clear H; have hcz16_0 : wc.cell? ⟨gb195, 0, none⟩ = some (.int .i64 a0_0) := (blk_cell BK195.out 0).trans rfl; have hcz16_1 : wc.cell? ⟨gb195, 1, none⟩ = some (.string a0_1) := (blk_cell BK195.out 1).trans rfl; have hcz16_2 : wc.cell? ⟨gb195, 2, none⟩ = some (.string a0_2) := (blk_cell BK195.out 2).trans rfl; have hcz16_3 : wc.cell? ⟨gb195, 3, none⟩ = some (.int .i64 a0_3) := (blk_cell BK195.out 3).trans rfl; have hcz16_4 : wc.cell? ⟨gb195, 4, none⟩ = some (.int .i64 a0_4) := (blk_cell BK195.out 4).trans rfl; have hcz16_5 : wc.cell? ⟨gb195, 5, none⟩ = some (.slice A0_5 l0_5.length c0_5) := (blk_cell BK195.out 5).trans rfl; have hfz16_0 := blk_frozen BK195.out 0; have hfz16_1 := blk_frozen BK195.out 1; have hfz16_2 := blk_frozen BK195.out 2; have hfz16_3 := blk_frozen BK195.out 3; have hfz16_4 := blk_frozen BK195.out 4; have hfz16_5 := blk_frozen BK195.out 5; go_upto_block 0 with (fail)
      go_cut [] (fun wc => False)
      case first =>
       have H := HC15.out; clear HC15; by_cases c17 : a0_0 = 1
       ·rw [if_pos c17] at H; have c17b0 : (a0_0 == 1) = true := beq_iff_eq.mpr c17; have c17b1 : (a0_0 != 1) = false := bne_eq_false_iff_eq.mpr c17; clear c17; (first | rw [c17b0] | (simp only [i64_w, i32_w]; rw [c17b0]) | skip)
        by_cases c18 : a0_1.toList = ([] : List UInt8)
        ·rw [if_pos c18] at H; have c18b0 : (a0_1.toList == ([] : List UInt8)) = true := beq_iff_eq.mpr c18; have c18b1 : (a0_1.toList != ([] : List UInt8)) = false := bne_eq_false_iff_eq.mpr c18; clear c18; by_cases c19 : x5_4 = true
         ·subst c19; rw [if_pos rfl] at H; obtain rfl := Option.some.inj H; have hcz20_0 : wc.cell? ⟨gb195, 0, none⟩ = some (.int .i64 a0_0) := (blk_cell BK195.out 0).trans rfl; have hcz20_1 : wc.cell? ⟨gb195, 1, none⟩ = some (.string a0_1) := (blk_cell BK195.out 1).trans rfl; have hcz20_2 : wc.cell? ⟨gb195, 2, none⟩ = some (.string a0_2) := (blk_cell BK195.out 2).trans rfl; have hcz20_3 : wc.cell? ⟨gb195, 3, none⟩ = some (.int .i64 a0_3) := (blk_cell BK195.out 3).trans rfl; have hcz20_4 : wc.cell? ⟨gb195, 4, none⟩ = some (.int .i64 a0_4) := (blk_cell BK195.out 4).trans rfl; have hcz20_5 : wc.cell? ⟨gb195, 5, none⟩ = some (.slice A0_5 l0_5.length c0_5) := (blk_cell BK195.out 5).trans rfl; have hfz20_0 := blk_frozen BK195.out 0; have hfz20_1 := blk_frozen BK195.out 1; have hfz20_2 := blk_frozen BK195.out 2; have hfz20_3 := blk_frozen BK195.out 3; have hfz20_4 := blk_frozen BK195.out 4; have hfz20_5 := blk_frozen BK195.out 5; go_wp2; go_ret
          exact ⟨u2_, u3_⟩
         ·replace c19 := Bool.eq_false_iff.mpr c19; subst c19; rw [if_neg (show ¬ (false = true) by decide)] at H; by_cases c21 : x6_4 = true
          ·subst c21; rw [if_pos rfl] at H; obtain rfl := Option.some.inj H; have hcz22_0 : wc.cell? ⟨gb195, 0, none⟩ = some (.int .i64 a0_0) := (blk_cell BK195.out 0).trans rfl; have hcz22_1 : wc.cell? ⟨gb195, 1, none⟩ = some (.string a0_1) := (blk_cell BK195.out 1).trans rfl; have hcz22_2 : wc.cell? ⟨gb195, 2, none⟩ = some (.string a0_2) := (blk_cell BK195.out 2).trans rfl; have hcz22_3 : wc.cell? ⟨gb195, 3, none⟩ = some (.int .i64 a0_3) := (blk_cell BK195.out 3).trans rfl; have hcz22_4 : wc.cell? ⟨gb195, 4, none⟩ = some (.int .i64 a0_4) := (blk_cell BK195.out 4).trans rfl; have hcz22_5 : wc.cell? ⟨gb195, 5, none⟩ = some (.slice A0_5 l0_5.length c0_5) := (blk_cell BK195.out 5).trans rfl; have hfz22_0 := blk_frozen BK195.out 0; have hfz22_1 := blk_frozen BK195.out 1; have hfz22_2 := blk_frozen BK195.out 2; have hfz22_3 := blk_frozen BK195.out 3; have hfz22_4 := blk_frozen BK195.out 4; have hfz22_5 := blk_frozen BK195.out 5; go_wp2; go_ret
           exact ⟨u2_, u3_⟩
          ·replace c21 := Bool.eq_false_iff.mpr c21; subst c21; rw [if_neg (show ¬ (false = true) by decide)] at H; obtain rfl := Option.some.inj H; have hcz23_0 : wc.cell? ⟨gb195, 0, none⟩ = some (.int .i64 a0_0) := (blk_cell BK195.out 0).trans rfl; have hcz23_1 : wc.cell? ⟨gb195, 1, none⟩ = some (.string a0_1) := (blk_cell BK195.out 1).trans rfl; have hcz23_2 : wc.cell? ⟨gb195, 2, none⟩ = some (.string a0_2) := (blk_cell BK195.out 2).trans rfl; have hcz23_3 : wc.cell? ⟨gb195, 3, none⟩ = some (.int .i64 a0_3) := (blk_cell BK195.out 3).trans rfl; have hcz23_4 : wc.cell? ⟨gb195, 4, none⟩ = some (.int .i64 a0_4) := (blk_cell BK195.out 4).trans rfl; have hcz23_5 : wc.cell? ⟨gb195, 5, none⟩ = some (.slice A0_5 l0_5.length c0_5) := (blk_cell BK195.out 5).trans rfl; have hfz23_0 := blk_frozen BK195.out 0; have hfz23_1 := blk_frozen BK195.out 1; have hfz23_2 := blk_frozen BK195.out 2; have hfz23_3 := blk_frozen BK195.out 3; have hfz23_4 := blk_frozen BK195.out 4; have hfz23_5 := blk_frozen BK195.out 5; go_wp2; go_ret
           exact ⟨u2_, u3_⟩
        ·rw [if_neg c18] at H; have c18b0 : (a0_1.toList == ([] : List UInt8)) = false := beq_eq_false_iff_ne.mpr c18; have c18b1 : (a0_1.toList != ([] : List UInt8)) = true := bne_iff_ne.mpr c18; obtain rfl := Option.some.inj H; have hcz24_0 : wc.cell? ⟨gb195, 0, none⟩ = some (.int .i64 a0_0) := (blk_cell BK195.out 0).trans rfl; have hcz24_1 : wc.cell? ⟨gb195, 1, none⟩ = some (.string a0_1) := (blk_cell BK195.out 1).trans rfl; have hcz24_2 : wc.cell? ⟨gb195, 2, none⟩ = some (.string a0_2) := (blk_cell BK195.out 2).trans rfl; have hcz24_3 : wc.cell? ⟨gb195, 3, none⟩ = some (.int .i64 a0_3) := (blk_cell BK195.out 3).trans rfl; have hcz24_4 : wc.cell? ⟨gb195, 4, none⟩ = some (.int .i64 a0_4) := (blk_cell BK195.out 4).trans rfl; have hcz24_5 : wc.cell? ⟨gb195, 5, none⟩ = some (.slice A0_5 l0_5.length c0_5) := (blk_cell BK195.out 5).trans rfl; have hfz24_0 := blk_frozen BK195.out 0; have hfz24_1 := blk_frozen BK195.out 1; have hfz24_2 := blk_frozen BK195.out 2; have hfz24_3 := blk_frozen BK195.out 3; have hfz24_4 := blk_frozen BK195.out 4; have hfz24_5 := blk_frozen BK195.out 5; go_wp2; go_ret
         exact ⟨u2_, u3_⟩
       ·rw [if_neg c17] at H; have c17b0 : (a0_0 == 1) = false := beq_eq_false_iff_ne.mpr c17; have c17b1 : (a0_0 != 1) = true := bne_iff_ne.mpr c17; (first | rw [c17b0] | (simp only [i64_w, i32_w]; rw [c17b0]) | skip)
        by_cases c25 : a0_0 = 2
        ·rw [if_pos c25] at H; have c25b0 : (a0_0 == 2) = true := beq_iff_eq.mpr c25; have c25b1 : (a0_0 != 2) = false := bne_eq_false_iff_eq.mpr c25; clear c25; by_cases c26 : x8_9 = true
         ·subst c26; rw [if_pos rfl] at H; replace H := Option.bind_eq_some_iff.mp H; obtain ⟨t197, A270, H⟩ := H; replace H : (if t197 = true then ((impl_Stem.f kj9 a0_2).bind fun t198 => (if t198.toList = ([] : List UInt8) then (some false) else (if x6_4 = true then (some false) else (some (x7_4 == 0))))) else (some false)) = some r := H; have A27 := am_ A270; clear A270; by_cases c28 : t197 = true
          ·subst c28; rw [if_pos rfl] at H; replace H := Option.bind_eq_some_iff.mp H; obtain ⟨t198, A290, H⟩ := H; replace H : (if t198.toList = ([] : List UInt8) then (some false) else (if x6_4 = true then (some false) else (some (x7_4 == 0)))) = some r := H; have A29 := am_ A290; clear A290; by_cases c30 : t198.toList = ([] : List UInt8)
           ·rw [if_pos c30] at H; have c30b0 : (t198.toList == ([] : List UInt8)) = true := beq_iff_eq.mpr c30; have c30b1 : (t198.toList != ([] : List UInt8)) = false := bne_eq_false_iff_eq.mpr c30; clear c30; obtain rfl := Option.some.inj H; have hcz31_0 : wc.cell? ⟨gb195, 0, none⟩ = some (.int .i64 a0_0) := (blk_cell BK195.out 0).trans rfl; have hcz31_1 : wc.cell? ⟨gb195, 1, none⟩ = some (.string a0_1) := (blk_cell BK195.out 1).trans rfl; have hcz31_2 : wc.cell? ⟨gb195, 2, none⟩ = some (.string a0_2) := (blk_cell BK195.out 2).trans rfl; have hcz31_3 : wc.cell? ⟨gb195, 3, none⟩ = some (.int .i64 a0_3) := (blk_cell BK195.out 3).trans rfl; have hcz31_4 : wc.cell? ⟨gb195, 4, none⟩ = some (.int .i64 a0_4) := (blk_cell BK195.out 4).trans rfl; have hcz31_5 : wc.cell? ⟨gb195, 5, none⟩ = some (.slice A0_5 l0_5.length c0_5) := (blk_cell BK195.out 5).trans rfl; have hfz31_0 := blk_frozen BK195.out 0; have hfz31_1 := blk_frozen BK195.out 1; have hfz31_2 := blk_frozen BK195.out 2; have hfz31_3 := blk_frozen BK195.out 3; have hfz31_4 := blk_frozen BK195.out 4; have hfz31_5 := blk_frozen BK195.out 5; go_wp2_with (first | (go_at_call 17; (with_reducible refine (impl_wordsOk.calls kj9 a0_2 1 1 true _ ?side1 A27.out).mono ?_); (case side1 => exact u80_); rintro e w32 ⟨rfl, hb⟩; replace BK195 := am_ (blk_below (g := gb195) (o := .cells #[.int .i64 a0_0, .string a0_1, .string a0_2, .int .i64 a0_3, .int .i64 a0_4, .slice A0_5 l0_5.length c0_5] 29 (0, 0)) u11_ hb); replace HB := am_ (below_step u3_ hb); (try clear hb); (try clear hb2); (try clear hk); (try clear hi); have hcz33_0 : w32.cell? ⟨gb195, 0, none⟩ = some (.int .i64 a0_0) := (blk_cell BK195.out 0).trans rfl; have hcz33_1 : w32.cell? ⟨gb195, 1, none⟩ = some (.string a0_1) := (blk_cell BK195.out 1).trans rfl; have hcz33_2 : w32.cell? ⟨gb195, 2, none⟩ = some (.string a0_2) := (blk_cell BK195.out 2).trans rfl; have hcz33_3 : w32.cell? ⟨gb195, 3, none⟩ = some (.int .i64 a0_3) := (blk_cell BK195.out 3).trans rfl; have hcz33_4 : w32.cell? ⟨gb195, 4, none⟩ = some (.int .i64 a0_4) := (blk_cell BK195.out 4).trans rfl; have hcz33_5 : w32.cell? ⟨gb195, 5, none⟩ = some (.slice A0_5 l0_5.length c0_5) := (blk_cell BK195.out 5).trans rfl; have hfz33_0 := blk_frozen BK195.out 0; have hfz33_1 := blk_frozen BK195.out 1; have hfz33_2 := blk_frozen BK195.out 2; have hfz33_3 := blk_frozen BK195.out 3; have hfz33_4 := blk_frozen BK195.out 4; have hfz33_5 := blk_frozen BK195.out 5) | (go_at_call 18; (with_reducible refine (impl_Stem.calls kj9 a0_2 t198 _ ?side1 A29.out).mono ?_); (case side1 => exact u80_); rintro e w34 ⟨rfl, hb⟩; replace BK195 := am_ (blk_below (g := gb195) (o := .cells #[.int .i64 a0_0, .string a0_1, .string a0_2, .int .i64 a0_3, .int .i64 a0_4, .slice A0_5 l0_5.length c0_5] 29 (0, 0)) u11_ hb); replace HB := am_ (below_step u3_ hb); (try clear hb); (try clear hb2); (try clear hk); (try clear hi)))
            go_ret
            exact ⟨u2_, u3_⟩
           ·rw [if_neg c30] at H; have c30b0 : (t198.toList == ([] : List UInt8)) = false := beq_eq_false_iff_ne.mpr c30; have c30b1 : (t198.toList != ([] : List UInt8)) = true := bne_iff_ne.mpr c30; by_cases c35 : x6_4 = true
            ·subst c35; rw [if_pos rfl] at H; obtain rfl := Option.some.inj H; have hcz36_0 : wc.cell? ⟨gb195, 0, none⟩ = some (.int .i64 a0_0) := (blk_cell BK195.out 0).trans rfl; have hcz36_1 : wc.cell? ⟨gb195, 1, none⟩ = some (.string a0_1) := (blk_cell BK195.out 1).trans rfl; have hcz36_2 : wc.cell? ⟨gb195, 2, none⟩ = some (.string a0_2) := (blk_cell BK195.out 2).trans rfl; have hcz36_3 : wc.cell? ⟨gb195, 3, none⟩ = some (.int .i64 a0_3) := (blk_cell BK195.out 3).trans rfl; have hcz36_4 : wc.cell? ⟨gb195, 4, none⟩ = some (.int .i64 a0_4) := (blk_cell BK195.out 4).trans rfl; have hcz36_5 : wc.cell? ⟨gb195, 5, none⟩ = some (.slice A0_5 l0_5.length c0_5) := (blk_cell BK195.out 5).trans rfl; have hfz36_0 := blk_frozen BK195.out 0; have hfz36_1 := blk_frozen BK195.out 1; have hfz36_2 := blk_frozen BK195.out 2; have hfz36_3 := blk_frozen BK195.out 3; have hfz36_4 := blk_frozen BK195.out 4; have hfz36_5 := blk_frozen BK195.out 5; go_wp2_with (first | (go_at_call 17; (with_reducible refine (impl_wordsOk.calls kj9 a0_2 1 1 true _ ?side1 A27.out).mono ?_); (case side1 => exact u80_); rintro e w37 ⟨rfl, hb⟩; replace BK195 := am_ (blk_below (g := gb195) (o := .cells #[.int .i64 a0_0, .string a0_1, .string a0_2, .int .i64 a0_3, .int .i64 a0_4, .slice A0_5 l0_5.length c0_5] 29 (0, 0)) u11_ hb); replace HB := am_ (below_step u3_ hb); (try clear hb); (try clear hb2); (try clear hk); (try clear hi); have hcz38_0 : w37.cell? ⟨gb195, 0, none⟩ = some (.int .i64 a0_0) := (blk_cell BK195.out 0).trans rfl; have hcz38_1 : w37.cell? ⟨gb195, 1, none⟩ = some (.string a0_1) := (blk_cell BK195.out 1).trans rfl; have hcz38_2 : w37.cell? ⟨gb195, 2, none⟩ = some (.string a0_2) := (blk_cell BK195.out 2).trans rfl; have hcz38_3 : w37.cell? ⟨gb195, 3, none⟩ = some (.int .i64 a0_3) := (blk_cell BK195.out 3).trans rfl; have hcz38_4 : w37.cell? ⟨gb195, 4, none⟩ = some (.int .i64 a0_4) := (blk_cell BK195.out 4).trans rfl; have hcz38_5 : w37.cell? ⟨gb195, 5, none⟩ = some (.slice A0_5 l0_5.length c0_5) := (blk_cell BK195.out 5).trans rfl; have hfz38_0 := blk_frozen BK195.out 0; have hfz38_1 := blk_frozen BK195.out 1; have hfz38_2 := blk_frozen BK195.out 2; have hfz38_3 := blk_frozen BK195.out 3; have hfz38_4 := blk_frozen BK195.out 4; have hfz38_5 := blk_frozen BK195.out 5) | (go_at_call 18; (with_reducible refine (impl_Stem.calls kj9 a0_2 t198 _ ?side1 A29.out).mono ?_); (case side1 => exact u80_); rintro e w39 ⟨rfl, hb⟩; replace BK195 := am_ (blk_below (g := gb195) (o := .cells #[.int .i64 a0_0, .string a0_1, .string a0_2, .int .i64 a0_3, .int .i64 a0_4, .slice A0_5 l0_5.length c0_5] 29 (0, 0)) u11_ hb); replace HB := am_ (below_step u3_ hb); (try clear hb); (try clear hb2); (try clear hk); (try clear hi)))
             go_ret
             exact ⟨u2_, u3_⟩
            ·replace c35 := Bool.eq_false_iff.mpr c35; subst c35; rw [if_neg (show ¬ (false = true) by decide)] at H; obtain rfl := Option.some.inj H; have hcz40_0 : wc.cell? ⟨gb195, 0, none⟩ = some (.int .i64 a0_0) := (blk_cell BK195.out 0).trans rfl; have hcz40_1 : wc.cell? ⟨gb195, 1, none⟩ = some (.string a0_1) := (blk_cell BK195.out 1).trans rfl; have hcz40_2 : wc.cell? ⟨gb195, 2, none⟩ = some (.string a0_2) := (blk_cell BK195.out 2).trans rfl; have hcz40_3 : wc.cell? ⟨gb195, 3, none⟩ = some (.int .i64 a0_3) := (blk_cell BK195.out 3).trans rfl; have hcz40_4 : wc.cell? ⟨gb195, 4, none⟩ = some (.int .i64 a0_4) := (blk_cell BK195.out 4).trans rfl; have hcz40_5 : wc.cell? ⟨gb195, 5, none⟩ = some (.slice A0_5 l0_5.length c0_5) := (blk_cell BK195.out 5).trans rfl; have hfz40_0 := blk_frozen BK195.out 0; have hfz40_1 := blk_frozen BK195.out 1; have hfz40_2 := blk_frozen BK195.out 2; have hfz40_3 := blk_frozen BK195.out 3; have hfz40_4 := blk_frozen BK195.out 4; have hfz40_5 := blk_frozen BK195.out 5; go_wp2_with (first | (go_at_call 17; (with_reducible refine (impl_wordsOk.calls kj9 a0_2 1 1 true _ ?side1 A27.out).mono ?_); (case side1 => exact u80_); rintro e w41 ⟨rfl, hb⟩; replace BK195 := am_ (blk_below (g := gb195) (o := .cells #[.int .i64 a0_0, .string a0_1, .string a0_2, .int .i64 a0_3, .int .i64 a0_4, .slice A0_5 l0_5.length c0_5] 29 (0, 0)) u11_ hb); replace HB := am_ (below_step u3_ hb); (try clear hb); (try clear hb2); (try clear hk); (try clear hi); have hcz42_0 : w41.cell? ⟨gb195, 0, none⟩ = some (.int .i64 a0_0) := (blk_cell BK195.out 0).trans rfl; have hcz42_1 : w41.cell? ⟨gb195, 1, none⟩ = some (.string a0_1) := (blk_cell BK195.out 1).trans rfl; have hcz42_2 : w41.cell? ⟨gb195, 2, none⟩ = some (.string a0_2) := (blk_cell BK195.out 2).trans rfl; have hcz42_3 : w41.cell? ⟨gb195, 3, none⟩ = some (.int .i64 a0_3) := (blk_cell BK195.out 3).trans rfl; have hcz42_4 : w41.cell? ⟨gb195, 4, none⟩ = some (.int .i64 a0_4) := (blk_cell BK195.out 4).trans rfl; have hcz42_5 : w41.cell? ⟨gb195, 5, none⟩ = some (.slice A0_5 l0_5.length c0_5) := (blk_cell BK195.out 5).trans rfl; have hfz42_0 := blk_frozen BK195.out 0; have hfz42_1 := blk_frozen BK195.out 1; have hfz42_2 := blk_frozen BK195.out 2; have hfz42_3 := blk_frozen BK195.out 3; have hfz42_4 := blk_frozen BK195.out 4; have hfz42_5 := blk_frozen BK195.out 5) | (go_at_call 18; (with_reducible refine (impl_Stem.calls kj9 a0_2 t198 _ ?side1 A29.out).mono ?_); (case side1 => exact u80_); rintro e w43 ⟨rfl, hb⟩; replace BK195 := am_ (blk_below (g := gb195) (o := .cells #[.int .i64 a0_0, .string a0_1, .string a0_2, .int .i64 a0_3, .int .i64 a0_4, .slice A0_5 l0_5.length c0_5] 29 (0, 0)) u11_ hb); replace HB := am_ (below_step u3_ hb); (try clear hb); (try clear hb2); (try clear hk); (try clear hi)))
             go_ret
             exact ⟨u2_, u3_⟩
          ·replace c28 := Bool.eq_false_iff.mpr c28; subst c28; rw [if_neg (show ¬ (false = true) by decide)] at H; obtain rfl := Option.some.inj H; have hcz44_0 : wc.cell? ⟨gb195, 0, none⟩ = some (.int .i64 a0_0) := (blk_cell BK195.out 0).trans rfl; have hcz44_1 : wc.cell? ⟨gb195, 1, none⟩ = some (.string a0_1) := (blk_cell BK195.out 1).trans rfl; have hcz44_2 : wc.cell? ⟨gb195, 2, none⟩ = some (.string a0_2) := (blk_cell BK195.out 2).trans rfl; have hcz44_3 : wc.cell? ⟨gb195, 3, none⟩ = some (.int .i64 a0_3) := (blk_cell BK195.out 3).trans rfl; have hcz44_4 : wc.cell? ⟨gb195, 4, none⟩ = some (.int .i64 a0_4) := (blk_cell BK195.out 4).trans rfl; have hcz44_5 : wc.cell? ⟨gb195, 5, none⟩ = some (.slice A0_5 l0_5.length c0_5) := (blk_cell BK195.out 5).trans rfl; have hfz44_0 := blk_frozen BK195.out 0; have hfz44_1 := blk_frozen BK195.out 1; have hfz44_2 := blk_frozen BK195.out 2; have hfz44_3 := blk_frozen BK195.out 3; have hfz44_4 := blk_frozen BK195.out 4; have hfz44_5 := blk_frozen BK195.out 5; go_wp2_with (first | (go_at_call 17; (with_reducible refine (impl_wordsOk.calls kj9 a0_2 1 1 false _ ?side1 A27.out).mono ?_); (case side1 => exact u80_); rintro e w45 ⟨rfl, hb⟩; replace BK195 := am_ (blk_below (g := gb195) (o := .cells #[.int .i64 a0_0, .string a0_1, .string a0_2, .int .i64 a0_3, .int .i64 a0_4, .slice A0_5 l0_5.length c0_5] 29 (0, 0)) u11_ hb); replace HB := am_ (below_step u3_ hb); (try clear hb); (try clear hb2); (try clear hk); (try clear hi)))
           go_ret
           exact ⟨u2_, u3_⟩
         ·replace c26 := Bool.eq_false_iff.mpr c26; subst c26; rw [if_neg (show ¬ (false = true) by decide)] at H; obtain rfl := Option.some.inj H; go_wp2; go_ret
          exact ⟨u2_, u3_⟩
        ·rw [if_neg c25] at H; have c25b0 : (a0_0 == 2) = false := beq_eq_false_iff_ne.mpr c25; have c25b1 : (a0_0 != 2) = true := bne_iff_ne.mpr c25; by_cases c46 : a0_0 = 3
         ·rw [if_pos c46] at H; have c46b0 : (a0_0 == 3) = true := beq_iff_eq.mpr c46; have c46b1 : (a0_0 != 3) = false := bne_eq_false_iff_eq.mpr c46; clear c46; by_cases c47 : x8_9 = true
          ·subst c47; rw [if_pos rfl] at H; replace H := Option.bind_eq_some_iff.mp H; obtain ⟨t199, A480, H⟩ := H; replace H : (if t199 = true then (if x6_4 = true then (some false) else (some (x7_4 == 0))) else (some false)) = some r := H; have A48 := am_ A480; clear A480; by_cases c49 : t199 = true
           ·subst c49; rw [if_pos rfl] at H; by_cases c50 : x6_4 = true
            ·subst c50; rw [if_pos rfl] at H; obtain rfl := Option.some.inj H; have hcz51_0 : wc.cell? ⟨gb195, 0, none⟩ = some (.int .i64 a0_0) := (blk_cell BK195.out 0).trans rfl; have hcz51_1 : wc.cell? ⟨gb195, 1, none⟩ = some (.string a0_1) := (blk_cell BK195.out 1).trans rfl; have hcz51_2 : wc.cell? ⟨gb195, 2, none⟩ = some (.string a0_2) := (blk_cell BK195.out 2).trans rfl; have hcz51_3 : wc.cell? ⟨gb195, 3, none⟩ = some (.int .i64 a0_3) := (blk_cell BK195.out 3).trans rfl; have hcz51_4 : wc.cell? ⟨gb195, 4, none⟩ = some (.int .i64 a0_4) := (blk_cell BK195.out 4).trans rfl; have hcz51_5 : wc.cell? ⟨gb195, 5, none⟩ = some (.slice A0_5 l0_5.length c0_5) := (blk_cell BK195.out 5).trans rfl; have hfz51_0 := blk_frozen BK195.out 0; have hfz51_1 := blk_frozen BK195.out 1; have hfz51_2 := blk_frozen BK195.out 2; have hfz51_3 := blk_frozen BK195.out 3; have hfz51_4 := blk_frozen BK195.out 4; have hfz51_5 := blk_frozen BK195.out 5; go_wp2_with (first | (go_at_call 17; (with_reducible refine (impl_wordsOk.calls kj9 a0_2 2 4 true _ ?side1 A48.out).mono ?_); (case side1 => exact u80_); rintro e w52 ⟨rfl, hb⟩; replace BK195 := am_ (blk_below (g := gb195) (o := .cells #[.int .i64 a0_0, .string a0_1, .string a0_2, .int .i64 a0_3, .int .i64 a0_4, .slice A0_5 l0_5.length c0_5] 29 (0, 0)) u11_ hb); replace HB := am_ (below_step u3_ hb); (try clear hb); (try clear hb2); (try clear hk); (try clear hi)))
             go_ret
             exact ⟨u2_, u3_⟩
            ·replace c50 := Bool.eq_false_iff.mpr c50; subst c50; rw [if_neg (show ¬ (false = true) by decide)] at H; obtain rfl := Option.some.inj H; have hcz53_0 : wc.cell? ⟨gb195, 0, none⟩ = some (.int .i64 a0_0) := (blk_cell BK195.out 0).trans rfl; have hcz53_1 : wc.cell? ⟨gb195, 1, none⟩ = some (.string a0_1) := (blk_cell BK195.out 1).trans rfl; have hcz53_2 : wc.cell? ⟨gb195, 2, none⟩ = some (.string a0_2) := (blk_cell BK195.out 2).trans rfl; have hcz53_3 : wc.cell? ⟨gb195, 3, none⟩ = some (.int .i64 a0_3) := (blk_cell BK195.out 3).trans rfl; have hcz53_4 : wc.cell? ⟨gb195, 4, none⟩ = some (.int .i64 a0_4) := (blk_cell BK195.out 4).trans rfl; have hcz53_5 : wc.cell? ⟨gb195, 5, none⟩ = some (.slice A0_5 l0_5.length c0_5) := (blk_cell BK195.out 5).trans rfl; have hfz53_0 := blk_frozen BK195.out 0; have hfz53_1 := blk_frozen BK195.out 1; have hfz53_2 := blk_frozen BK195.out 2; have hfz53_3 := blk_frozen BK195.out 3; have hfz53_4 := blk_frozen BK195.out 4; have hfz53_5 := blk_frozen BK195.out 5; go_wp2_with (first | (go_at_call 17; (with_reducible refine (impl_wordsOk.calls kj9 a0_2 2 4 true _ ?side1 A48.out).mono ?_); (case side1 => exact u80_); rintro e w54 ⟨rfl, hb⟩; replace BK195 := am_ (blk_below (g := gb195) (o := .cells #[.int .i64 a0_0, .string a0_1, .string a0_2, .int .i64 a0_3, .int .i64 a0_4, .slice A0_5 l0_5.length c0_5] 29 (0, 0)) u11_ hb); replace HB := am_ (below_step u3_ hb); (try clear hb); (try clear hb2); (try clear hk); (try clear hi)))
             go_ret
             exact ⟨u2_, u3_⟩
           ·replace c49 := Bool.eq_false_iff.mpr c49; subst c49; rw [if_neg (show ¬ (false = true) by decide)] at H; obtain rfl := Option.some.inj H; have hcz55_0 : wc.cell? ⟨gb195, 0, none⟩ = some (.int .i64 a0_0) := (blk_cell BK195.out 0).trans rfl; have hcz55_1 : wc.cell? ⟨gb195, 1, none⟩ = some (.string a0_1) := (blk_cell BK195.out 1).trans rfl; have hcz55_2 : wc.cell? ⟨gb195, 2, none⟩ = some (.string a0_2) := (blk_cell BK195.out 2).trans rfl; have hcz55_3 : wc.cell? ⟨gb195, 3, none⟩ = some (.int .i64 a0_3) := (blk_cell BK195.out 3).trans rfl; have hcz55_4 : wc.cell? ⟨gb195, 4, none⟩ = some (.int .i64 a0_4) := (blk_cell BK195.out 4).trans rfl; have hcz55_5 : wc.cell? ⟨gb195, 5, none⟩ = some (.slice A0_5 l0_5.length c0_5) := (blk_cell BK195.out 5).trans rfl; have hfz55_0 := blk_frozen BK195.out 0; have hfz55_1 := blk_frozen BK195.out 1; have hfz55_2 := blk_frozen BK195.out 2; have hfz55_3 := blk_frozen BK195.out 3; have hfz55_4 := blk_frozen BK195.out 4; have hfz55_5 := blk_frozen BK195.out 5; go_wp2_with (first | (go_at_call 17; (with_reducible refine (impl_wordsOk.calls kj9 a0_2 2 4 false _ ?side1 A48.out).mono ?_); (case side1 => exact u80_); rintro e w56 ⟨rfl, hb⟩; replace BK195 := am_ (blk_below (g := gb195) (o := .cells #[.int .i64 a0_0, .string a0_1, .string a0_2, .int .i64 a0_3, .int .i64 a0_4, .slice A0_5 l0_5.length c0_5] 29 (0, 0)) u11_ hb); replace HB := am_ (below_step u3_ hb); (try clear hb); (try clear hb2); (try clear hk); (try clear hi)))
            go_ret
            exact ⟨u2_, u3_⟩
          ·replace c47 := Bool.eq_false_iff.mpr c47; subst c47; rw [if_neg (show ¬ (false = true) by decide)] at H; obtain rfl := Option.some.inj H; go_wp2; go_ret
           exact ⟨u2_, u3_⟩
         ·rw [if_neg c46] at H; have c46b0 : (a0_0 == 3) = false := beq_eq_false_iff_ne.mpr c46; have c46b1 : (a0_0 != 3) = true := bne_iff_ne.mpr c46; by_cases c57 : a0_0 = 4
          ·exact u82_
          ·rw [if_neg c57] at H; have c57b0 : (a0_0 == 4) = false := beq_eq_false_iff_ne.mpr c57; have c57b1 : (a0_0 != 4) = true := bne_iff_ne.mpr c57; by_cases c74 : a0_0 = 5
           ·rw [if_pos c74] at H; have c74b0 : (a0_0 == 5) = true := beq_iff_eq.mpr c74; have c74b1 : (a0_0 != 5) = false := bne_eq_false_iff_eq.mpr c74; clear c74; replace H := Option.bind_eq_some_iff.mp H; obtain ⟨t202, A750, H⟩ := H; replace H : (if t202 = true then (if x5_4 = true then (some false) else ((impl_within.f a0_3 (-999999999) 999999999).bind fun t203 => (if t203 = true then ((impl_within.f a0_4 (-999999999) 999999999).bind fun t204 => (if t204 = true then (some (x7_4 == 0)) else (some false))) else (some false)))) else (some false)) = some r := H; have A75 := am_ A750; clear A750; by_cases c76 : t202 = true
            ·subst c76; rw [if_pos rfl] at H; by_cases c77 : x5_4 = true
             ·subst c77; rw [if_pos rfl] at H; obtain rfl := Option.some.inj H; have hcz78_0 : wc.cell? ⟨gb195, 0, none⟩ = some (.int .i64 a0_0) := (blk_cell BK195.out 0).trans rfl; have hcz78_1 : wc.cell? ⟨gb195, 1, none⟩ = some (.string a0_1) := (blk_cell BK195.out 1).trans rfl; have hcz78_2 : wc.cell? ⟨gb195, 2, none⟩ = some (.string a0_2) := (blk_cell BK195.out 2).trans rfl; have hcz78_3 : wc.cell? ⟨gb195, 3, none⟩ = some (.int .i64 a0_3) := (blk_cell BK195.out 3).trans rfl; have hcz78_4 : wc.cell? ⟨gb195, 4, none⟩ = some (.int .i64 a0_4) := (blk_cell BK195.out 4).trans rfl; have hcz78_5 : wc.cell? ⟨gb195, 5, none⟩ = some (.slice A0_5 l0_5.length c0_5) := (blk_cell BK195.out 5).trans rfl; have hfz78_0 := blk_frozen BK195.out 0; have hfz78_1 := blk_frozen BK195.out 1; have hfz78_2 := blk_frozen BK195.out 2; have hfz78_3 := blk_frozen BK195.out 3; have hfz78_4 := blk_frozen BK195.out 4; have hfz78_5 := blk_frozen BK195.out 5; go_wp2_with (first | ((with_reducible refine gate_callee (f := 16) rfl ?_); refine goesL_ (some 126) rfl rfl Tryd.func16 u8_ rfl #[.string a0_1] rfl u4_ ?_; (with_reducible refine (impl_NameOk.calls kj9 a0_1 true _ A75.out).mono ?_); rintro e w' ⟨rfl, ⟨nd, rfl⟩⟩; refine ⟨_, rfl, ?_⟩))
              go_ret
              exact ⟨u2_, u3_⟩
             ·replace c77 := Bool.eq_false_iff.mpr c77; subst c77; rw [if_neg (show ¬ (false = true) by decide)] at H; replace H := Option.bind_eq_some_iff.mp H; obtain ⟨t203, A790, H⟩ := H; replace H : (if t203 = true then ((impl_within.f a0_4 (-999999999) 999999999).bind fun t204 => (if t204 = true then (some (x7_4 == 0)) else (some false))) else (some false)) = some r := H; have A79 := am_ A790; clear A790; by_cases c80 : t203 = true
              ·subst c80; rw [if_pos rfl] at H; replace H := Option.bind_eq_some_iff.mp H; obtain ⟨t204, A810, H⟩ := H; replace H : (if t204 = true then (some (x7_4 == 0)) else (some false)) = some r := H; have A81 := am_ A810; clear A810; by_cases c82 : t204 = true
               ·subst c82; rw [if_pos rfl] at H; obtain rfl := Option.some.inj H; have hcz83_0 : wc.cell? ⟨gb195, 0, none⟩ = some (.int .i64 a0_0) := (blk_cell BK195.out 0).trans rfl; have hcz83_1 : wc.cell? ⟨gb195, 1, none⟩ = some (.string a0_1) := (blk_cell BK195.out 1).trans rfl; have hcz83_2 : wc.cell? ⟨gb195, 2, none⟩ = some (.string a0_2) := (blk_cell BK195.out 2).trans rfl; have hcz83_3 : wc.cell? ⟨gb195, 3, none⟩ = some (.int .i64 a0_3) := (blk_cell BK195.out 3).trans rfl; have hcz83_4 : wc.cell? ⟨gb195, 4, none⟩ = some (.int .i64 a0_4) := (blk_cell BK195.out 4).trans rfl; have hcz83_5 : wc.cell? ⟨gb195, 5, none⟩ = some (.slice A0_5 l0_5.length c0_5) := (blk_cell BK195.out 5).trans rfl; have hfz83_0 := blk_frozen BK195.out 0; have hfz83_1 := blk_frozen BK195.out 1; have hfz83_2 := blk_frozen BK195.out 2; have hfz83_3 := blk_frozen BK195.out 3; have hfz83_4 := blk_frozen BK195.out 4; have hfz83_5 := blk_frozen BK195.out 5; go_wp2_with (first | ((with_reducible refine gate_callee (f := 16) rfl ?_); refine goesL_ (some 126) rfl rfl Tryd.func16 u8_ rfl #[.string a0_1] rfl u4_ ?_; (with_reducible refine (impl_NameOk.calls kj9 a0_1 true _ A75.out).mono ?_); rintro e w' ⟨rfl, ⟨nd, rfl⟩⟩; refine ⟨_, rfl, ?_⟩) | (go_at_call 21; (with_reducible refine (impl_within.calls a0_4 (-999999999) 999999999 true _ A81.out).mono ?_); rintro e w' ⟨rfl, ⟨nd, rfl⟩⟩) | (go_at_call 21; (with_reducible refine (impl_within.calls a0_3 (-999999999) 999999999 true _ A79.out).mono ?_); rintro e w' ⟨rfl, ⟨nd, rfl⟩⟩))
                go_ret
                exact ⟨u2_, u3_⟩
               ·replace c82 := Bool.eq_false_iff.mpr c82; subst c82; rw [if_neg (show ¬ (false = true) by decide)] at H; obtain rfl := Option.some.inj H; have hcz84_0 : wc.cell? ⟨gb195, 0, none⟩ = some (.int .i64 a0_0) := (blk_cell BK195.out 0).trans rfl; have hcz84_1 : wc.cell? ⟨gb195, 1, none⟩ = some (.string a0_1) := (blk_cell BK195.out 1).trans rfl; have hcz84_2 : wc.cell? ⟨gb195, 2, none⟩ = some (.string a0_2) := (blk_cell BK195.out 2).trans rfl; have hcz84_3 : wc.cell? ⟨gb195, 3, none⟩ = some (.int .i64 a0_3) := (blk_cell BK195.out 3).trans rfl; have hcz84_4 : wc.cell? ⟨gb195, 4, none⟩ = some (.int .i64 a0_4) := (blk_cell BK195.out 4).trans rfl; have hcz84_5 : wc.cell? ⟨gb195, 5, none⟩ = some (.slice A0_5 l0_5.length c0_5) := (blk_cell BK195.out 5).trans rfl; have hfz84_0 := blk_frozen BK195.out 0; have hfz84_1 := blk_frozen BK195.out 1; have hfz84_2 := blk_frozen BK195.out 2; have hfz84_3 := blk_frozen BK195.out 3; have hfz84_4 := blk_frozen BK195.out 4; have hfz84_5 := blk_frozen BK195.out 5; go_wp2_with (first | ((with_reducible refine gate_callee (f := 16) rfl ?_); refine goesL_ (some 126) rfl rfl Tryd.func16 u8_ rfl #[.string a0_1] rfl u4_ ?_; (with_reducible refine (impl_NameOk.calls kj9 a0_1 true _ A75.out).mono ?_); rintro e w' ⟨rfl, ⟨nd, rfl⟩⟩; refine ⟨_, rfl, ?_⟩) | (go_at_call 21; (with_reducible refine (impl_within.calls a0_4 (-999999999) 999999999 false _ A81.out).mono ?_); rintro e w' ⟨rfl, ⟨nd, rfl⟩⟩) | (go_at_call 21; (with_reducible refine (impl_within.calls a0_3 (-999999999) 999999999 true _ A79.out).mono ?_); rintro e w' ⟨rfl, ⟨nd, rfl⟩⟩))
                go_ret
                exact ⟨u2_, u3_⟩
              ·replace c80 := Bool.eq_false_iff.mpr c80; subst c80; rw [if_neg (show ¬ (false = true) by decide)] at H; obtain rfl := Option.some.inj H; have hcz85_0 : wc.cell? ⟨gb195, 0, none⟩ = some (.int .i64 a0_0) := (blk_cell BK195.out 0).trans rfl; have hcz85_1 : wc.cell? ⟨gb195, 1, none⟩ = some (.string a0_1) := (blk_cell BK195.out 1).trans rfl; have hcz85_2 : wc.cell? ⟨gb195, 2, none⟩ = some (.string a0_2) := (blk_cell BK195.out 2).trans rfl; have hcz85_3 : wc.cell? ⟨gb195, 3, none⟩ = some (.int .i64 a0_3) := (blk_cell BK195.out 3).trans rfl; have hcz85_4 : wc.cell? ⟨gb195, 4, none⟩ = some (.int .i64 a0_4) := (blk_cell BK195.out 4).trans rfl; have hcz85_5 : wc.cell? ⟨gb195, 5, none⟩ = some (.slice A0_5 l0_5.length c0_5) := (blk_cell BK195.out 5).trans rfl; have hfz85_0 := blk_frozen BK195.out 0; have hfz85_1 := blk_frozen BK195.out 1; have hfz85_2 := blk_frozen BK195.out 2; have hfz85_3 := blk_frozen BK195.out 3; have hfz85_4 := blk_frozen BK195.out 4; have hfz85_5 := blk_frozen BK195.out 5; go_wp2_with (first | ((with_reducible refine gate_callee (f := 16) rfl ?_); refine goesL_ (some 126) rfl rfl Tryd.func16 u8_ rfl #[.string a0_1] rfl u4_ ?_; (with_reducible refine (impl_NameOk.calls kj9 a0_1 true _ A75.out).mono ?_); rintro e w' ⟨rfl, ⟨nd, rfl⟩⟩; refine ⟨_, rfl, ?_⟩) | (go_at_call 21; (with_reducible refine (impl_within.calls a0_3 (-999999999) 999999999 false _ A79.out).mono ?_); rintro e w' ⟨rfl, ⟨nd, rfl⟩⟩))
               go_ret
               exact ⟨u2_, u3_⟩
            ·replace c76 := Bool.eq_false_iff.mpr c76; subst c76; rw [if_neg (show ¬ (false = true) by decide)] at H; obtain rfl := Option.some.inj H; have hcz86_0 : wc.cell? ⟨gb195, 0, none⟩ = some (.int .i64 a0_0) := (blk_cell BK195.out 0).trans rfl; have hcz86_1 : wc.cell? ⟨gb195, 1, none⟩ = some (.string a0_1) := (blk_cell BK195.out 1).trans rfl; have hcz86_2 : wc.cell? ⟨gb195, 2, none⟩ = some (.string a0_2) := (blk_cell BK195.out 2).trans rfl; have hcz86_3 : wc.cell? ⟨gb195, 3, none⟩ = some (.int .i64 a0_3) := (blk_cell BK195.out 3).trans rfl; have hcz86_4 : wc.cell? ⟨gb195, 4, none⟩ = some (.int .i64 a0_4) := (blk_cell BK195.out 4).trans rfl; have hcz86_5 : wc.cell? ⟨gb195, 5, none⟩ = some (.slice A0_5 l0_5.length c0_5) := (blk_cell BK195.out 5).trans rfl; have hfz86_0 := blk_frozen BK195.out 0; have hfz86_1 := blk_frozen BK195.out 1; have hfz86_2 := blk_frozen BK195.out 2; have hfz86_3 := blk_frozen BK195.out 3; have hfz86_4 := blk_frozen BK195.out 4; have hfz86_5 := blk_frozen BK195.out 5; go_wp2_with (first | ((with_reducible refine gate_callee (f := 16) rfl ?_); refine goesL_ (some 126) rfl rfl Tryd.func16 u8_ rfl #[.string a0_1] rfl u4_ ?_; (with_reducible refine (impl_NameOk.calls kj9 a0_1 false _ A75.out).mono ?_); rintro e w' ⟨rfl, ⟨nd, rfl⟩⟩; refine ⟨_, rfl, ?_⟩))
             go_ret
             exact ⟨u2_, u3_⟩
           ·rw [if_neg c74] at H; have c74b0 : (a0_0 == 5) = false := beq_eq_false_iff_ne.mpr c74; have c74b1 : (a0_0 != 5) = true := bne_iff_ne.mpr c74; by_cases c87 : a0_0 = 6
            ·rw [if_pos c87] at H; have c87b0 : (a0_0 == 6) = true := beq_iff_eq.mpr c87; have c87b1 : (a0_0 != 6) = false := bne_eq_false_iff_eq.mpr c87; clear c87; replace H := Option.bind_eq_some_iff.mp H; obtain ⟨t205, A880, H⟩ := H; replace H : (if t205 = true then ((impl_NameOk.f kj9 a0_2).bind fun t206 => (if t206 = true then (if x6_4 = true then (some false) else (some (x7_4 == 0))) else (some false))) else (some false)) = some r := H; have A88 := am_ A880; clear A880; by_cases c89 : t205 = true
             ·subst c89; rw [if_pos rfl] at H; replace H := Option.bind_eq_some_iff.mp H; obtain ⟨t206, A900, H⟩ := H; replace H : (if t206 = true then (if x6_4 = true then (some false) else (some (x7_4 == 0))) else (some false)) = some r := H; have A90 := am_ A900; clear A900; by_cases c91 : t206 = true
              ·subst c91; rw [if_pos rfl] at H; by_cases c92 : x6_4 = true
               ·subst c92; rw [if_pos rfl] at H; obtain rfl := Option.some.inj H; have hcz93_0 : wc.cell? ⟨gb195, 0, none⟩ = some (.int .i64 a0_0) := (blk_cell BK195.out 0).trans rfl; have hcz93_1 : wc.cell? ⟨gb195, 1, none⟩ = some (.string a0_1) := (blk_cell BK195.out 1).trans rfl; have hcz93_2 : wc.cell? ⟨gb195, 2, none⟩ = some (.string a0_2) := (blk_cell BK195.out 2).trans rfl; have hcz93_3 : wc.cell? ⟨gb195, 3, none⟩ = some (.int .i64 a0_3) := (blk_cell BK195.out 3).trans rfl; have hcz93_4 : wc.cell? ⟨gb195, 4, none⟩ = some (.int .i64 a0_4) := (blk_cell BK195.out 4).trans rfl; have hcz93_5 : wc.cell? ⟨gb195, 5, none⟩ = some (.slice A0_5 l0_5.length c0_5) := (blk_cell BK195.out 5).trans rfl; have hfz93_0 := blk_frozen BK195.out 0; have hfz93_1 := blk_frozen BK195.out 1; have hfz93_2 := blk_frozen BK195.out 2; have hfz93_3 := blk_frozen BK195.out 3; have hfz93_4 := blk_frozen BK195.out 4; have hfz93_5 := blk_frozen BK195.out 5; go_wp2_with (first | ((with_reducible refine gate_callee (f := 16) rfl ?_); refine goesL_ (some 149) rfl rfl Tryd.func16 u8_ rfl #[.string a0_1] rfl u4_ ?_; (with_reducible refine (impl_NameOk.calls kj9 a0_1 true _ A88.out).mono ?_); rintro e w' ⟨rfl, ⟨nd, rfl⟩⟩; refine ⟨_, rfl, ?_⟩) | (go_at_call 16; (with_reducible refine (impl_NameOk.calls kj9 a0_2 true _ A90.out).mono ?_); rintro e w' ⟨rfl, ⟨nd, rfl⟩⟩))
                go_ret
                exact ⟨u2_, u3_⟩
               ·replace c92 := Bool.eq_false_iff.mpr c92; subst c92; rw [if_neg (show ¬ (false = true) by decide)] at H; obtain rfl := Option.some.inj H; have hcz94_0 : wc.cell? ⟨gb195, 0, none⟩ = some (.int .i64 a0_0) := (blk_cell BK195.out 0).trans rfl; have hcz94_1 : wc.cell? ⟨gb195, 1, none⟩ = some (.string a0_1) := (blk_cell BK195.out 1).trans rfl; have hcz94_2 : wc.cell? ⟨gb195, 2, none⟩ = some (.string a0_2) := (blk_cell BK195.out 2).trans rfl; have hcz94_3 : wc.cell? ⟨gb195, 3, none⟩ = some (.int .i64 a0_3) := (blk_cell BK195.out 3).trans rfl; have hcz94_4 : wc.cell? ⟨gb195, 4, none⟩ = some (.int .i64 a0_4) := (blk_cell BK195.out 4).trans rfl; have hcz94_5 : wc.cell? ⟨gb195, 5, none⟩ = some (.slice A0_5 l0_5.length c0_5) := (blk_cell BK195.out 5).trans rfl; have hfz94_0 := blk_frozen BK195.out 0; have hfz94_1 := blk_frozen BK195.out 1; have hfz94_2 := blk_frozen BK195.out 2; have hfz94_3 := blk_frozen BK195.out 3; have hfz94_4 := blk_frozen BK195.out 4; have hfz94_5 := blk_frozen BK195.out 5; go_wp2_with (first | ((with_reducible refine gate_callee (f := 16) rfl ?_); refine goesL_ (some 149) rfl rfl Tryd.func16 u8_ rfl #[.string a0_1] rfl u4_ ?_; (with_reducible refine (impl_NameOk.calls kj9 a0_1 true _ A88.out).mono ?_); rintro e w' ⟨rfl, ⟨nd, rfl⟩⟩; refine ⟨_, rfl, ?_⟩) | (go_at_call 16; (with_reducible refine (impl_NameOk.calls kj9 a0_2 true _ A90.out).mono ?_); rintro e w' ⟨rfl, ⟨nd, rfl⟩⟩))
                go_ret
                exact ⟨u2_, u3_⟩
              ·replace c91 := Bool.eq_false_iff.mpr c91; subst c91; rw [if_neg (show ¬ (false = true) by decide)] at H; obtain rfl := Option.some.inj H; have hcz95_0 : wc.cell? ⟨gb195, 0, none⟩ = some (.int .i64 a0_0) := (blk_cell BK195.out 0).trans rfl; have hcz95_1 : wc.cell? ⟨gb195, 1, none⟩ = some (.string a0_1) := (blk_cell BK195.out 1).trans rfl; have hcz95_2 : wc.cell? ⟨gb195, 2, none⟩ = some (.string a0_2) := (blk_cell BK195.out 2).trans rfl; have hcz95_3 : wc.cell? ⟨gb195, 3, none⟩ = some (.int .i64 a0_3) := (blk_cell BK195.out 3).trans rfl; have hcz95_4 : wc.cell? ⟨gb195, 4, none⟩ = some (.int .i64 a0_4) := (blk_cell BK195.out 4).trans rfl; have hcz95_5 : wc.cell? ⟨gb195, 5, none⟩ = some (.slice A0_5 l0_5.length c0_5) := (blk_cell BK195.out 5).trans rfl; have hfz95_0 := blk_frozen BK195.out 0; have hfz95_1 := blk_frozen BK195.out 1; have hfz95_2 := blk_frozen BK195.out 2; have hfz95_3 := blk_frozen BK195.out 3; have hfz95_4 := blk_frozen BK195.out 4; have hfz95_5 := blk_frozen BK195.out 5; go_wp2_with (first | ((with_reducible refine gate_callee (f := 16) rfl ?_); refine goesL_ (some 149) rfl rfl Tryd.func16 u8_ rfl #[.string a0_1] rfl u4_ ?_; (with_reducible refine (impl_NameOk.calls kj9 a0_1 true _ A88.out).mono ?_); rintro e w' ⟨rfl, ⟨nd, rfl⟩⟩; refine ⟨_, rfl, ?_⟩) | (go_at_call 16; (with_reducible refine (impl_NameOk.calls kj9 a0_2 false _ A90.out).mono ?_); rintro e w' ⟨rfl, ⟨nd, rfl⟩⟩))
               go_ret
               exact ⟨u2_, u3_⟩
             ·replace c89 := Bool.eq_false_iff.mpr c89; subst c89; rw [if_neg (show ¬ (false = true) by decide)] at H; obtain rfl := Option.some.inj H; have hcz96_0 : wc.cell? ⟨gb195, 0, none⟩ = some (.int .i64 a0_0) := (blk_cell BK195.out 0).trans rfl; have hcz96_1 : wc.cell? ⟨gb195, 1, none⟩ = some (.string a0_1) := (blk_cell BK195.out 1).trans rfl; have hcz96_2 : wc.cell? ⟨gb195, 2, none⟩ = some (.string a0_2) := (blk_cell BK195.out 2).trans rfl; have hcz96_3 : wc.cell? ⟨gb195, 3, none⟩ = some (.int .i64 a0_3) := (blk_cell BK195.out 3).trans rfl; have hcz96_4 : wc.cell? ⟨gb195, 4, none⟩ = some (.int .i64 a0_4) := (blk_cell BK195.out 4).trans rfl; have hcz96_5 : wc.cell? ⟨gb195, 5, none⟩ = some (.slice A0_5 l0_5.length c0_5) := (blk_cell BK195.out 5).trans rfl; have hfz96_0 := blk_frozen BK195.out 0; have hfz96_1 := blk_frozen BK195.out 1; have hfz96_2 := blk_frozen BK195.out 2; have hfz96_3 := blk_frozen BK195.out 3; have hfz96_4 := blk_frozen BK195.out 4; have hfz96_5 := blk_frozen BK195.out 5; go_wp2_with (first | ((with_reducible refine gate_callee (f := 16) rfl ?_); refine goesL_ (some 149) rfl rfl Tryd.func16 u8_ rfl #[.string a0_1] rfl u4_ ?_; (with_reducible refine (impl_NameOk.calls kj9 a0_1 false _ A88.out).mono ?_); rintro e w' ⟨rfl, ⟨nd, rfl⟩⟩; refine ⟨_, rfl, ?_⟩))
              go_ret
              exact ⟨u2_, u3_⟩
            ·exact absurd hV.out (by have := beq_eq_false_iff_ne.1 c17b0; have := beq_eq_false_iff_ne.1 c25b0; have := beq_eq_false_iff_ne.1 c46b0; have := beq_eq_false_iff_ne.1 c57b0; have := beq_eq_false_iff_ne.1 c74b0; omega)
      case rest =>
       exact hcut.elim
end Go.Proofs.YthlabmfecmdlcaaDoor.PFnExactQueryOk
