/- Contracts of Go functions that the law FnExactQueryOk reaches: each is told as a plain Lean function, with the walk that shows it; no condition beyond what each states. Written by a program of this session round the kit's printer. -/
import Derived.Test.YthlabmfecmdlcaaDoorVPFnExactQueryOkx0
import Derived.Test.YthlabmfecmdlcaaDoorVPFnExactQueryOkx6
import Derived.Test.YthlabmfecmdlcaaDoorVPFnExactQueryOkx7
import Derived.Test.YthlabmfecmdlcaaDoorVPFnExactQueryOkx80
namespace Go.Proofs.YthlabmfecmdlcaaDoor.PFnExactQueryOk
open Go.RowKit Go.Proofs.YthlabmfecmdlcaaDoorW.PrintWords Go.Proofs.YthlabmfecmdlcaaDoorW.PrintLast Go.Proofs.YthlabmfecmdlcaaDoorW.PrintMore
attribute [local go_sem] isSome_setCell run_str_geq run_str_leq max2_int min2_int max_two min_two max_three min_three max_four min_four   -- for this text's walks alone
set_option linter.unusedVariables false
set_option linter.unusedSimpArgs false

set_option maxHeartbeats 8000000 in
set_option maxRecDepth 100000 in
theorem impl_Query_ok.calls_4 (k : Nat) (ih : ∀ m_, m_ < k → impl_Query_ok.Stmt m_) : ∀ (a0_0 : Int) (a0_1 : ByteArray) (a0_2 : ByteArray) (a0_3 : Int) (a0_4 : Int) (A0_5 : Option Addr) (c0_5 : Nat) (l0_5 : List (S29)) (a1 : Int) (r : Bool) (w : World) (hG : StopsIn w) (hr0_5 : Kd.C k29 w A0_5 l0_5.length l0_5) (hc0_5 : l0_5.length ≤ c0_5) (h : impl_Query_ok.f k a0_0 a0_1 a0_2 a0_3 a0_4 l0_5 a1 = some r) (hV : Aside0 (a0_0 = 4)),
  Calls Tryd.prog 12 #[.agg #[.int .i64 a0_0, .string a0_1, .string a0_2, .int .i64 a0_3, .int .i64 a0_4, .slice A0_5 l0_5.length c0_5], .int .i64 a1] w fun e w' => e = .returned (.bool r) ∧ Below w.heap.size w w' := by
 intro a0_0 a0_1 a0_2 a0_3 a0_4 A0_5 c0_5 l0_5 a1 r w hG hr0_5 hc0_5 h hV; cases k with
 | zero => exact absurd h (by simp [impl_Query_ok.f])
 | succ k =>
 simp only [impl_Query_ok.f] at h; have hu29 := Tryd.underlying29; have HG_ := am_ hG; clear hG; have HR0_5 := am_ hr0_5; have HC0_5 := am_ hc0_5; clear hr0_5 hc0_5; have HB := am_ (Below.refl w.heap.size w); have H : (if a1 > 4 then (some false) else (if a0_3 = 0 then (impl_Query_ok.j0 k a1 (a0_2.toList != ([] : List UInt8)) (a0_4 != 0) (l0_5.length : Int) a0_0 a0_1 a0_2 a0_3 a0_4 l0_5) else (impl_Query_ok.j0 k a1 (a0_2.toList != ([] : List UInt8)) true (l0_5.length : Int) a0_0 a0_1 a0_2 a0_3 a0_4 l0_5))) = some r := h; clear h; by_cases c3 : a1 > 4
 ·rw [if_pos c3] at H; have c3b0 : decide (4 < a1) = true := decide_eq_true c3; clear c3; obtain rfl := Option.some.inj H; go_enter Tryd.func12, Tryd.ntmps12
  go_wp2_with (first | ((with_reducible refine gate_dst (N := 2) rfl ?_); (try (refine gate_guard u30_ ?_; dsimp only)); refine box_event ?hg (N := 2) ?hd (cs := #[.int .i64 a0_0, .string a0_1, .string a0_2, .int .i64 a0_3, .int .i64 a0_4, .slice A0_5 l0_5.length c0_5]) (t := 29) ?hr ?_; (case hd => rfl); (case hg => rfl); (case hr => exact u26_); intro gb195 hg w4 hbox hb; have BK195 := am_ (hbox); have GW195 := am_ ((by rw [hg]; exact (below_size u1_) : w.heap.size ≤ gb195)); have GE195 := GW195; replace HB := am_ (below_step u1_ hb); clear hb hbox hg))
  go_ret
  exact ⟨u2_, u3_⟩
 ·rw [if_neg c3] at H; have c3b0 : decide (4 < a1) = false := decide_eq_false c3; clear c3; have HC5 := am_ H; clear H; go_enter Tryd.func12, Tryd.ntmps12
  go_upto_region 3 with (first | ((with_reducible refine gate_dst (N := 2) rfl ?_); (try (refine gate_guard u30_ ?_; dsimp only)); refine box_event ?hg (N := 2) ?hd (cs := #[.int .i64 a0_0, .string a0_1, .string a0_2, .int .i64 a0_3, .int .i64 a0_4, .slice A0_5 l0_5.length c0_5]) (t := 29) ?hr ?_; (case hd => rfl); (case hg => rfl); (case hr => exact u26_); intro gb195 hg w6 hbox hb; have BK195 := am_ (hbox); have GW195 := am_ ((by rw [hg]; exact (below_size u1_) : w.heap.size ≤ gb195)); have GE195 := GW195; replace HB := am_ (below_step u1_ hb); clear hb hbox hg))
  (try simp only [Act.put, List.setIfInBounds_toArray, List.set_cons_zero, List.set_cons_succ])
  go_cut [5, 6, 7] (fun v5 v6 v7 wc => ∃ (kq : Nat) (x5_4 : Bool) (x6_4 : Bool) (x7_4 : Int), v5 = .bool x5_4 ∧ v6 = .bool x6_4 ∧ v7 = .int .i64 x7_4 ∧ Aside0 (impl_Query_ok.j0 kq a1 x5_4 x6_4 x7_4 a0_0 a0_1 a0_2 a0_3 a0_4 l0_5 = some r) ∧ Aside0 (kq ≤ k) ∧ Aside0 (wc.heap[gb195]? = some (.cells #[.int .i64 a0_0, .string a0_1, .string a0_2, .int .i64 a0_3, .int .i64 a0_4, (.slice A0_5 l0_5.length c0_5)] 29 (0, 0))) ∧ Aside0 (Below w.heap.size w wc))
  case first =>
   have H := HC5.out; clear HC5; by_cases c7 : a0_3 = 0
   ·rw [if_pos c7] at H; have c7b0 : (a0_3 == 0) = true := beq_iff_eq.mpr c7; have c7b1 : (a0_3 != 0) = false := bne_eq_false_iff_eq.mpr c7; clear c7; (first | rw [c7b0] | (simp only [i64_w, i32_w]; rw [c7b0]) | skip)
    have H' := am_ H; clear H; try go_wp2
    replace BK195 := am_ (blk_drew BK195.out); replace HB := am_ (below_drew1 HB.out); refine start_ (n := 17) (S := fun w' => w'.cell? ⟨gb195, 0, none⟩ = some (.int .i64 a0_0) ∧ w'.cell? ⟨gb195, 1, none⟩ = some (.string a0_1) ∧ w'.cell? ⟨gb195, 2, none⟩ = some (.string a0_2) ∧ w'.cell? ⟨gb195, 3, none⟩ = some (.int .i64 a0_3) ∧ w'.cell? ⟨gb195, 4, none⟩ = some (.int .i64 a0_4) ∧ w'.cell? ⟨gb195, 5, none⟩ = some (.slice A0_5 l0_5.length c0_5)) (ds := []) (bm_ 17 0) u8_ rfl rfl ⟨(blk_cell BK195.out 0).trans rfl, (blk_cell BK195.out 1).trans rfl, (blk_cell BK195.out 2).trans rfl, (blk_cell BK195.out 3).trans rfl, (blk_cell BK195.out 4).trans rfl, (blk_cell BK195.out 5).trans rfl⟩ (fun hHeld => ?_); refine with_tabW impl_Query_ok.tab3 impl_Query_ok.bits3 (fun HT_ HW_ => ?_); generalize w6.drew = w8 at BK195 HB hHeld ⊢; refine pure_ (i := 0) (N := some 13) (v := ?_) (a' := ?_) (bm_ 17 1) rfl rfl (any_of HT_.out u8_) (fun _ _ _ h => h) (Or.inl ⟨u30_, ?_⟩) ?_ ?_; rotate_left
    ·exact u5_
    rotate_left
    ·exact u0_
    refine pure_ (i := 3) (N := some 16) (v := ?_) (a' := ?_) (bm_ 17 9) rfl rfl (any_of HT_.out u8_) (fun _ _ _ h => h) (Or.inl ⟨u30_, ?_⟩) ?_ ?_; rotate_left
    ·exact u5_
    rotate_left
    ·exact u0_
    refine pure_ (i := 11) (N := some 24) (v := ?_) (a' := ?_) (bm_ 17 2057) rfl rfl (any_of HT_.out u8_) (fun _ _ _ h => h) (Or.inl ⟨u30_, ?_⟩) ?_ ?_; rotate_left
    ·exact u5_
    rotate_left
    ·exact u0_
    refine take_ (i := 1) (N := some 14) (v := ?_) (a' := ?_) (bm_ 17 2059) rfl rfl (take_ofW HT_.out HW_.out u8_) (fun _ _ _ h => h) (Or.inl ⟨u30_, ?_⟩) hHeld ?_ ?_; rotate_left
    ·exact u17_
    rotate_left
    ·exact u0_
    refine pure_ (i := 2) (N := some 15) (v := ?_) (a' := ?_) (bm_ 17 2063) rfl rfl (any_of HT_.out u8_) (fun _ _ _ h => h) (Or.inl ⟨u30_, ?_⟩) ?_ ?_; rotate_left
    ·exact u5_
    rotate_left
    ·exact u0_
    refine take_ (i := 4) (N := some 17) (v := ?_) (a' := ?_) (bm_ 17 2079) rfl rfl (take_ofW HT_.out HW_.out u8_) (fun _ _ _ h => h) (Or.inl ⟨u30_, ?_⟩) hHeld ?_ ?_; rotate_left
    ·exact u17_
    rotate_left
    ·exact u0_
    refine pure_ (i := 5) (N := some 18) (v := ?_) (a' := ?_) (bm_ 17 2111) rfl rfl (any_of HT_.out u8_) (fun _ _ _ h => h) (Or.inl ⟨u30_, ?_⟩) ?_ ?_; rotate_left
    ·exact u5_
    rotate_left
    ·exact u0_
    refine pure_ (i := 6) (N := some 19) (v := ?_) (a' := ?_) (bm_ 17 2175) rfl rfl (any_of HT_.out u8_) (fun _ _ _ h => h) (Or.inl ⟨u30_, ?_⟩) ?_ ?_; rotate_left
    ·exact u5_
    rotate_left
    ·exact u0_
    refine pure_ (i := 7) (N := some 20) (v := ?_) (a' := ?_) (bm_ 17 2303) rfl rfl (any_of HT_.out u8_) (fun _ _ _ h => h) (Or.inl ⟨u30_, ?_⟩) ?_ ?_; rotate_left
    ·exact u5_
    rotate_left
    ·exact u0_
    refine pure_ (i := 14) (N := some 5) (v := ?_) (a' := ?_) (bm_ 17 18687) rfl rfl (any_of HT_.out u8_) (fun _ _ _ h => h) (Or.inl ⟨u30_, ?_⟩) ?_ ?_; rotate_left
    ·exact u5_
    rotate_left
    ·exact u0_
    refine take_ (i := 8) (N := some 21) (v := ?_) (a' := ?_) (bm_ 17 18943) rfl rfl (take_ofW HT_.out HW_.out u8_) (fun _ _ _ h => h) (Or.inl ⟨u30_, ?_⟩) hHeld ?_ ?_; rotate_left
    ·exact u17_
    rotate_left
    ·exact u0_
    refine pure_ (i := 9) (N := some 22) (v := ?_) (a' := ?_) (bm_ 17 19455) rfl rfl (any_of HT_.out u8_) (fun _ _ _ h => h) (Or.inl ⟨u30_, ?_⟩) ?_ ?_; rotate_left
    ·exact u5_
    rotate_left
    ·exact u0_
    refine pure_ (i := 10) (N := some 23) (v := ?_) (a' := ?_) (bm_ 17 20479) rfl rfl (any_of HT_.out u8_) (fun _ _ _ h => h) (Or.inl ⟨u30_, ?_⟩) ?_ ?_; rotate_left
    ·exact u5_
    rotate_left
    ·exact u0_
    refine pure_ (i := 15) (N := some 6) (v := ?_) (a' := ?_) (bm_ 17 53247) rfl rfl (any_of HT_.out u8_) (fun _ _ _ h => h) (Or.inl ⟨u30_, ?_⟩) ?_ ?_; rotate_left
    ·exact u5_
    rotate_left
    ·exact u0_
    refine take_ (i := 12) (N := some 25) (v := ?_) (a' := ?_) (bm_ 17 57343) rfl rfl (take_ofW HT_.out HW_.out u8_) (fun _ _ _ h => h) (Or.inl ⟨u30_, ?_⟩) hHeld ?_ ?_; rotate_left
    ·exact u17_
    rotate_left
    ·exact u0_
    refine pure_ (i := 13) (N := some 26) (v := ?_) (a' := ?_) (bm_ 17 65535) rfl rfl (any_of HT_.out u8_) (fun _ _ _ h => h) (Or.inl ⟨u30_, ?_⟩) ?_ ?_; rotate_left
    ·exact u5_
    rotate_left
    ·exact u0_
    refine pure_ (i := 16) (N := some 7) (v := ?_) (a' := ?_) (bm_ 17 131071) rfl rfl (any_of HT_.out u8_) (fun _ _ _ h => h) (Or.inl ⟨u30_, ?_⟩) ?_ ?_; rotate_left
    ·exact u5_
    rotate_left
    ·exact u0_
    refine done_ (done_of HT_.out u8_) ?_; try go_wp2
    go_meet
    case rel => exact ⟨_, ((a0_2.toList != ([] : List UInt8))), ((a0_4 != 0)), ((l0_5.length : Int)), u10_, u10_, u10_, H', ⟨u46_⟩, ⟨u11_⟩, ⟨u3_⟩⟩
   ·rw [if_neg c7] at H; have c7b0 : (a0_3 == 0) = false := beq_eq_false_iff_ne.mpr c7; have c7b1 : (a0_3 != 0) = true := bne_iff_ne.mpr c7; (first | rw [c7b0] | (simp only [i64_w, i32_w]; rw [c7b0]) | skip)
    have H' := am_ H; clear H; try go_wp2
    replace BK195 := am_ (blk_drew BK195.out); replace HB := am_ (below_drew1 HB.out); refine start_ (n := 17) (S := fun w' => w'.cell? ⟨gb195, 0, none⟩ = some (.int .i64 a0_0) ∧ w'.cell? ⟨gb195, 1, none⟩ = some (.string a0_1) ∧ w'.cell? ⟨gb195, 2, none⟩ = some (.string a0_2) ∧ w'.cell? ⟨gb195, 3, none⟩ = some (.int .i64 a0_3) ∧ w'.cell? ⟨gb195, 4, none⟩ = some (.int .i64 a0_4) ∧ w'.cell? ⟨gb195, 5, none⟩ = some (.slice A0_5 l0_5.length c0_5)) (ds := []) (bm_ 17 0) u8_ rfl rfl ⟨(blk_cell BK195.out 0).trans rfl, (blk_cell BK195.out 1).trans rfl, (blk_cell BK195.out 2).trans rfl, (blk_cell BK195.out 3).trans rfl, (blk_cell BK195.out 4).trans rfl, (blk_cell BK195.out 5).trans rfl⟩ (fun hHeld => ?_); refine with_tabW impl_Query_ok.tab3 impl_Query_ok.bits3 (fun HT_ HW_ => ?_); generalize w6.drew = w9 at BK195 HB hHeld ⊢; refine pure_ (i := 0) (N := some 13) (v := ?_) (a' := ?_) (bm_ 17 1) rfl rfl (any_of HT_.out u8_) (fun _ _ _ h => h) (Or.inl ⟨u30_, ?_⟩) ?_ ?_; rotate_left
    ·exact u5_
    rotate_left
    ·exact u0_
    refine pure_ (i := 3) (N := some 16) (v := ?_) (a' := ?_) (bm_ 17 9) rfl rfl (any_of HT_.out u8_) (fun _ _ _ h => h) (Or.inl ⟨u30_, ?_⟩) ?_ ?_; rotate_left
    ·exact u5_
    rotate_left
    ·exact u0_
    refine pure_ (i := 11) (N := some 24) (v := ?_) (a' := ?_) (bm_ 17 2057) rfl rfl (any_of HT_.out u8_) (fun _ _ _ h => h) (Or.inl ⟨u30_, ?_⟩) ?_ ?_; rotate_left
    ·exact u5_
    rotate_left
    ·exact u0_
    refine take_ (i := 1) (N := some 14) (v := ?_) (a' := ?_) (bm_ 17 2059) rfl rfl (take_ofW HT_.out HW_.out u8_) (fun _ _ _ h => h) (Or.inl ⟨u30_, ?_⟩) hHeld ?_ ?_; rotate_left
    ·exact u17_
    rotate_left
    ·exact u0_
    refine pure_ (i := 2) (N := some 15) (v := ?_) (a' := ?_) (bm_ 17 2063) rfl rfl (any_of HT_.out u8_) (fun _ _ _ h => h) (Or.inl ⟨u30_, ?_⟩) ?_ ?_; rotate_left
    ·exact u5_
    rotate_left
    ·exact u0_
    refine take_ (i := 4) (N := some 17) (v := ?_) (a' := ?_) (bm_ 17 2079) rfl rfl (take_ofW HT_.out HW_.out u8_) (fun _ _ _ h => h) (Or.inl ⟨u30_, ?_⟩) hHeld ?_ ?_; rotate_left
    ·exact u17_
    rotate_left
    ·exact u0_
    refine pure_ (i := 5) (N := some 18) (v := ?_) (a' := ?_) (bm_ 17 2111) rfl rfl (any_of HT_.out u8_) (fun _ _ _ h => h) (Or.inl ⟨u30_, ?_⟩) ?_ ?_; rotate_left
    ·exact u5_
    rotate_left
    ·exact u0_
    refine pure_ (i := 6) (N := some 19) (v := ?_) (a' := ?_) (bm_ 17 2175) rfl rfl (any_of HT_.out u8_) (fun _ _ _ h => h) (Or.inl ⟨u30_, ?_⟩) ?_ ?_; rotate_left
    ·exact u5_
    rotate_left
    ·exact u0_
    refine pure_ (i := 7) (N := some 20) (v := undef) (a' := ?_) (bm_ 17 2303) rfl rfl (any_of HT_.out u8_) (fun _ _ _ h => h) (Or.inr ⟨u30_, rfl⟩) ?_ ?_; rotate_left
    ·exact u0_
    refine pure_ (i := 8) (N := some 21) (v := undef) (a' := ?_) (bm_ 17 2559) rfl rfl (any_of HT_.out u8_) (fun _ _ _ h => h) (Or.inr ⟨u30_, rfl⟩) ?_ ?_; rotate_left
    ·exact u0_
    refine pure_ (i := 9) (N := some 22) (v := undef) (a' := ?_) (bm_ 17 3071) rfl rfl (any_of HT_.out u8_) (fun _ _ _ h => h) (Or.inr ⟨u30_, rfl⟩) ?_ ?_; rotate_left
    ·exact u0_
    refine pure_ (i := 10) (N := some 23) (v := ?_) (a' := ?_) (bm_ 17 4095) rfl rfl (any_of HT_.out u8_) (fun _ _ _ h => h) (Or.inl ⟨u30_, ?_⟩) ?_ ?_; rotate_left
    ·exact u5_
    rotate_left
    ·exact u0_
    refine pure_ (i := 14) (N := some 5) (v := ?_) (a' := ?_) (bm_ 17 20479) rfl rfl (any_of HT_.out u8_) (fun _ _ _ h => h) (Or.inl ⟨u30_, ?_⟩) ?_ ?_; rotate_left
    ·exact u5_
    rotate_left
    ·exact u0_
    refine pure_ (i := 15) (N := some 6) (v := ?_) (a' := ?_) (bm_ 17 53247) rfl rfl (any_of HT_.out u8_) (fun _ _ _ h => h) (Or.inl ⟨u30_, ?_⟩) ?_ ?_; rotate_left
    ·exact u5_
    rotate_left
    ·exact u0_
    refine take_ (i := 12) (N := some 25) (v := ?_) (a' := ?_) (bm_ 17 57343) rfl rfl (take_ofW HT_.out HW_.out u8_) (fun _ _ _ h => h) (Or.inl ⟨u30_, ?_⟩) hHeld ?_ ?_; rotate_left
    ·exact u17_
    rotate_left
    ·exact u0_
    refine pure_ (i := 13) (N := some 26) (v := ?_) (a' := ?_) (bm_ 17 65535) rfl rfl (any_of HT_.out u8_) (fun _ _ _ h => h) (Or.inl ⟨u30_, ?_⟩) ?_ ?_; rotate_left
    ·exact u5_
    rotate_left
    ·exact u0_
    refine pure_ (i := 16) (N := some 7) (v := ?_) (a' := ?_) (bm_ 17 131071) rfl rfl (any_of HT_.out u8_) (fun _ _ _ h => h) (Or.inl ⟨u30_, ?_⟩) ?_ ?_; rotate_left
    ·exact u5_
    rotate_left
    ·exact u0_
    refine done_ (done_of HT_.out u8_) ?_; try go_wp2
    go_meet
    case rel => exact ⟨_, ((a0_2.toList != ([] : List UInt8))), (true), ((l0_5.length : Int)), u10_, u10_, u10_, H', ⟨u46_⟩, ⟨u11_⟩, ⟨u3_⟩⟩
  case rest =>
   clear HC5; try clear c1
   try clear p2
   try clear c3
   try clear c3b0
   try clear c7
   try clear c7b0
   try clear c7b1
   obtain ⟨kq, x5_4, x6_4, x7_4, rfl, rfl, rfl, HA, HJ4, BK195, HB⟩ := hcut; cases kq with
   | zero => exact absurd HA.out (by simp [impl_Query_ok.j0])
   | succ kj4 =>
    have H := HA.out; clear HA; simp only [impl_Query_ok.j0] at H; have HC10 := am_ H; clear H; go_upto_region 4 with (fail)
    go_cut [8] (fun v8 wc => ∃ (kq : Nat) (x8_9 : Bool), v8 = .bool x8_9 ∧ Aside0 (impl_Query_ok.j1 kq a1 x5_4 x6_4 x7_4 x8_9 a0_0 a0_1 a0_2 a0_3 a0_4 l0_5 = some r) ∧ Aside0 (kq ≤ kj4) ∧ Aside0 (wc.heap[gb195]? = some (.cells #[.int .i64 a0_0, .string a0_1, .string a0_2, .int .i64 a0_3, .int .i64 a0_4, (.slice A0_5 l0_5.length c0_5)] 29 (0, 0))) ∧ Aside0 (Below w.heap.size w wc))
    case first =>
     have H := HC10.out; clear HC10; by_cases c11 : a0_1.toList = ([] : List UInt8)
     ·rw [if_pos c11] at H; have c11b0 : (a0_1.toList == ([] : List UInt8)) = true := beq_iff_eq.mpr c11; have c11b1 : (a0_1.toList != ([] : List UInt8)) = false := bne_eq_false_iff_eq.mpr c11; clear c11; (first | rw [c11b0] | (simp only [i64_w, i32_w]; rw [c11b0]) | skip)
      have H' := am_ H; clear H; have hcz12_0 : wc.cell? ⟨gb195, 0, none⟩ = some (.int .i64 a0_0) := (blk_cell BK195.out 0).trans rfl; have hcz12_1 : wc.cell? ⟨gb195, 1, none⟩ = some (.string a0_1) := (blk_cell BK195.out 1).trans rfl; have hcz12_2 : wc.cell? ⟨gb195, 2, none⟩ = some (.string a0_2) := (blk_cell BK195.out 2).trans rfl; have hcz12_3 : wc.cell? ⟨gb195, 3, none⟩ = some (.int .i64 a0_3) := (blk_cell BK195.out 3).trans rfl; have hcz12_4 : wc.cell? ⟨gb195, 4, none⟩ = some (.int .i64 a0_4) := (blk_cell BK195.out 4).trans rfl; have hcz12_5 : wc.cell? ⟨gb195, 5, none⟩ = some (.slice A0_5 l0_5.length c0_5) := (blk_cell BK195.out 5).trans rfl; have hfz12_0 := blk_frozen BK195.out 0; have hfz12_1 := blk_frozen BK195.out 1; have hfz12_2 := blk_frozen BK195.out 2; have hfz12_3 := blk_frozen BK195.out 3; have hfz12_4 := blk_frozen BK195.out 4; have hfz12_5 := blk_frozen BK195.out 5; go_wp2; go_meet
      case rel => exact ⟨_, (true), u10_, H', ⟨u49_⟩, ⟨u11_⟩, ⟨u3_⟩⟩
     ·rw [if_neg c11] at H; have c11b0 : (a0_1.toList == ([] : List UInt8)) = false := beq_eq_false_iff_ne.mpr c11; have c11b1 : (a0_1.toList != ([] : List UInt8)) = true := bne_iff_ne.mpr c11; (first | rw [c11b0] | (simp only [i64_w, i32_w]; rw [c11b0]) | skip)
      replace H := Option.bind_eq_some_iff.mp H; obtain ⟨t196, A130, H⟩ := H; replace H : (impl_Query_ok.j1 kj4 a1 x5_4 x6_4 x7_4 t196 a0_0 a0_1 a0_2 a0_3 a0_4 l0_5) = some r := H; have A13 := am_ A130; clear A130; have H' := am_ H; clear H; have hcz14_0 : wc.cell? ⟨gb195, 0, none⟩ = some (.int .i64 a0_0) := (blk_cell BK195.out 0).trans rfl; have hcz14_1 : wc.cell? ⟨gb195, 1, none⟩ = some (.string a0_1) := (blk_cell BK195.out 1).trans rfl; have hcz14_2 : wc.cell? ⟨gb195, 2, none⟩ = some (.string a0_2) := (blk_cell BK195.out 2).trans rfl; have hcz14_3 : wc.cell? ⟨gb195, 3, none⟩ = some (.int .i64 a0_3) := (blk_cell BK195.out 3).trans rfl; have hcz14_4 : wc.cell? ⟨gb195, 4, none⟩ = some (.int .i64 a0_4) := (blk_cell BK195.out 4).trans rfl; have hcz14_5 : wc.cell? ⟨gb195, 5, none⟩ = some (.slice A0_5 l0_5.length c0_5) := (blk_cell BK195.out 5).trans rfl; have hfz14_0 := blk_frozen BK195.out 0; have hfz14_1 := blk_frozen BK195.out 1; have hfz14_2 := blk_frozen BK195.out 2; have hfz14_3 := blk_frozen BK195.out 3; have hfz14_4 := blk_frozen BK195.out 4; have hfz14_5 := blk_frozen BK195.out 5; go_wp2_with (first | (go_at_call 16; (with_reducible refine (impl_NameOk.calls kj4 a0_1 t196 _ A13.out).mono ?_); rintro e w' ⟨rfl, ⟨nd, rfl⟩⟩))
      go_meet
      case rel => exact ⟨_, (t196), u10_, H', ⟨u49_⟩, ⟨u11_⟩, ⟨u3_⟩⟩
    case rest =>
     clear HC10; try clear c1
     try clear p2
     try clear c3
     try clear c3b0
     try clear c7
     try clear c7b0
     try clear c7b1
     try clear c11
     try clear c11b0
     try clear c11b1
     try clear c12
     try clear hcz12_0
     try clear hcz12_1
     try clear hcz12_2
     try clear hcz12_3
     try clear hcz12_4
     try clear hcz12_5
     try clear hcz14_0
     try clear hcz14_1
     try clear hcz14_2
     try clear hcz14_3
     try clear hcz14_4
     try clear hcz14_5
     try clear hfz12_0
     try clear hfz12_1
     try clear hfz12_2
     try clear hfz12_3
     try clear hfz12_4
     try clear hfz12_5
     try clear hfz14_0
     try clear hfz14_1
     try clear hfz14_2
     try clear hfz14_3
     try clear hfz14_4
     try clear hfz14_5
     try clear p2
     obtain ⟨kq, x8_9, rfl, HA, HJ9, BK195, HB⟩ := hcut; cases kq with
     | zero => exact absurd HA.out (by simp [impl_Query_ok.j1])
     | succ kj9 =>
      have H := HA.out; clear HA; simp only [impl_Query_ok.j1] at H; have HC15 := am_ H; clear H; have hcz16_0 : wc.cell? ⟨gb195, 0, none⟩ = some (.int .i64 a0_0) := (blk_cell BK195.out 0).trans rfl; have hcz16_1 : wc.cell? ⟨gb195, 1, none⟩ = some (.string a0_1) := (blk_cell BK195.out 1).trans rfl; have hcz16_2 : wc.cell? ⟨gb195, 2, none⟩ = some (.string a0_2) := (blk_cell BK195.out 2).trans rfl; have hcz16_3 : wc.cell? ⟨gb195, 3, none⟩ = some (.int .i64 a0_3) := (blk_cell BK195.out 3).trans rfl; have hcz16_4 : wc.cell? ⟨gb195, 4, none⟩ = some (.int .i64 a0_4) := (blk_cell BK195.out 4).trans rfl; have hcz16_5 : wc.cell? ⟨gb195, 5, none⟩ = some (.slice A0_5 l0_5.length c0_5) := (blk_cell BK195.out 5).trans rfl; have hfz16_0 := blk_frozen BK195.out 0; have hfz16_1 := blk_frozen BK195.out 1; have hfz16_2 := blk_frozen BK195.out 2; have hfz16_3 := blk_frozen BK195.out 3; have hfz16_4 := blk_frozen BK195.out 4; have hfz16_5 := blk_frozen BK195.out 5; go_upto_block 0 with (fail)
      go_cut [] (fun wc => False)
      case first =>
       have H := HC15.out; clear HC15; by_cases c17 : a0_0 = 1
       ·exact u82_
       ·rw [if_neg c17] at H; have c17b0 : (a0_0 == 1) = false := beq_eq_false_iff_ne.mpr c17; have c17b1 : (a0_0 != 1) = true := bne_iff_ne.mpr c17; (first | rw [c17b0] | (simp only [i64_w, i32_w]; rw [c17b0]) | skip)
        by_cases c25 : a0_0 = 2
        ·exact u82_
        ·rw [if_neg c25] at H; have c25b0 : (a0_0 == 2) = false := beq_eq_false_iff_ne.mpr c25; have c25b1 : (a0_0 != 2) = true := bne_iff_ne.mpr c25; by_cases c46 : a0_0 = 3
         ·exact u82_
         ·rw [if_neg c46] at H; have c46b0 : (a0_0 == 3) = false := beq_eq_false_iff_ne.mpr c46; have c46b1 : (a0_0 != 3) = true := bne_iff_ne.mpr c46; by_cases c57 : a0_0 = 4
          ·rw [if_pos c57] at H; have c57b0 : (a0_0 == 4) = true := beq_iff_eq.mpr c57; have c57b1 : (a0_0 != 4) = false := bne_eq_false_iff_eq.mpr c57; clear c57; by_cases c58 : x8_9 = true
           ·subst c58; rw [if_pos rfl] at H; replace H := Option.bind_eq_some_iff.mp H; obtain ⟨t200, A590, H⟩ := H; replace H : (if t200 = true then (if (a0_2.size : Int) ≤ 12 then ((impl_Fold.f a0_2).bind fun t201 => (if t201.toList = a0_2.toList then (if x6_4 = true then (some false) else (some (x7_4 == 0))) else (some false))) else (some false)) else (some false)) = some r := H; have A59 := am_ A590; clear A590; by_cases c60 : t200 = true
            ·subst c60; rw [if_pos rfl] at H; by_cases c61 : (a0_2.size : Int) ≤ 12
             ·rw [if_pos c61] at H; have c61b0 : decide ((a0_2.size : Int) ≤ 12) = true := decide_eq_true c61; have c61b1 : decide (a0_2.size ≤ 12) = true := decide_eq_true u52_; clear c61; replace H := Option.bind_eq_some_iff.mp H; obtain ⟨t201, A620, H⟩ := H; replace H : (if t201.toList = a0_2.toList then (if x6_4 = true then (some false) else (some (x7_4 == 0))) else (some false)) = some r := H; have A62 := am_ A620; clear A620; by_cases c63 : t201.toList = a0_2.toList
              ·rw [if_pos c63] at H; have c63b0 : (t201.toList == a0_2.toList) = true := beq_iff_eq.mpr c63; have c63b1 : (t201.toList != a0_2.toList) = false := bne_eq_false_iff_eq.mpr c63; clear c63; by_cases c64 : x6_4 = true
               ·subst c64; rw [if_pos rfl] at H; obtain rfl := Option.some.inj H; try go_wp2
                replace BK195 := am_ (blk_drew BK195.out); replace HB := am_ (below_drew1 HB.out); refine start_ (n := 29) (S := fun w' => w'.cell? ⟨gb195, 0, none⟩ = some (.int .i64 a0_0) ∧ w'.cell? ⟨gb195, 1, none⟩ = some (.string a0_1) ∧ w'.cell? ⟨gb195, 2, none⟩ = some (.string a0_2) ∧ w'.cell? ⟨gb195, 3, none⟩ = some (.int .i64 a0_3) ∧ w'.cell? ⟨gb195, 4, none⟩ = some (.int .i64 a0_4) ∧ w'.cell? ⟨gb195, 5, none⟩ = some (.slice A0_5 l0_5.length c0_5)) (ds := []) (bm_ 29 0) u8_ rfl rfl ⟨(blk_cell BK195.out 0).trans rfl, (blk_cell BK195.out 1).trans rfl, (blk_cell BK195.out 2).trans rfl, (blk_cell BK195.out 3).trans rfl, (blk_cell BK195.out 4).trans rfl, (blk_cell BK195.out 5).trans rfl⟩ (fun hHeld => ?_); refine with_tabW impl_Query_ok.tab14 impl_Query_ok.bits14 (fun HT_ HW_ => ?_); generalize wc.drew = w65 at BK195 HB hHeld ⊢; refine pure_ (i := 0) (N := some 94) (v := ?_) (a' := ?_) (bm_ 29 1) rfl rfl (any_of HT_.out u8_) (fun _ _ _ h => h) (Or.inl ⟨u30_, ?_⟩) ?_ ?_; rotate_left
                ·exact u5_
                rotate_left
                ·exact u0_
                refine pure_ (i := 1) (N := some 95) (v := ?_) (a' := ?_) (bm_ 29 3) rfl rfl (any_of HT_.out u8_) (fun _ _ _ h => h) (Or.inl ⟨u30_, ?_⟩) ?_ ?_; rotate_left
                ·exact u5_
                rotate_left
                ·exact u0_
                refine pure_ (i := 2) (N := some 96) (v := ?_) (a' := ?_) (bm_ 29 7) rfl rfl (any_of HT_.out u8_) (fun _ _ _ h => h) (Or.inl ⟨u30_, ?_⟩) ?_ ?_; rotate_left
                ·exact u5_
                rotate_left
                ·exact u0_
                refine take_ (i := 3) (N := some 97) (v := ?_) (a' := ?_) (bm_ 29 15) rfl rfl (take_ofW HT_.out HW_.out u8_) (fun _ _ _ h => h) (Or.inl ⟨u30_, ?_⟩) hHeld ?_ ?_; rotate_left
                ·exact u17_
                rotate_left
                ·exact u0_
                refine one_ (i := 4) (N := some 98) (bm_ 29 31) rfl rfl (one_of HT_.out u8_) u73_ (fun K hK => ?_); refine goes_ Tryd.func19 u8_ rfl #[.string a0_2] u30_ rfl rfl u4_ ?_; with_reducible refine (impl_isWord.calls kj9 a0_2 true _ A59.out).mono ?_
                rintro e w' ⟨rfl, ⟨nd, rfl⟩⟩; refine ⟨_, rfl, ?_⟩; refine hK.out _ _ ⟨(blk_cell BK195.out 0).trans rfl, (blk_cell BK195.out 1).trans rfl, (blk_cell BK195.out 2).trans rfl, (blk_cell BK195.out 3).trans rfl, (blk_cell BK195.out 4).trans rfl, (blk_cell BK195.out 5).trans rfl⟩ (fun hHeld => ?_); clear hK K; refine norm_ (a' := ?_) ?_ ?_; rotate_left
                ·show Act.put _ (some 98) _ = _
                 simp only [Act.put, List.setIfInBounds_toArray, List.set_cons_zero, List.set_cons_succ, i64_w, i32_w]; rfl
                refine pure_ (i := 5) (N := some 99) (v := ?_) (a' := ?_) (bm_ 29 63) rfl rfl (any_of HT_.out u8_) (fun _ _ _ h => h) (Or.inl ⟨u30_, ?_⟩) ?_ ?_; rotate_left
                ·exact u5_
                rotate_left
                ·exact u0_
                refine pure_ (i := 6) (N := some 100) (v := ?_) (a' := ?_) (bm_ 29 127) rfl rfl (any_of HT_.out u8_) (fun _ _ _ h => h) (Or.inl ⟨u30_, ?_⟩) ?_ ?_; rotate_left
                ·exact u5_
                rotate_left
                ·exact u0_
                refine pure_ (i := 7) (N := some 101) (v := ?_) (a' := ?_) (bm_ 29 255) rfl rfl (any_of HT_.out u8_) (fun _ _ _ h => h) (Or.inl ⟨u30_, ?_⟩) ?_ ?_; rotate_left
                ·exact u5_
                rotate_left
                ·exact u0_
                refine take_ (i := 8) (N := some 102) (v := ?_) (a' := ?_) (bm_ 29 511) rfl rfl (take_ofW HT_.out HW_.out u8_) (fun _ _ _ h => h) (Or.inl ⟨u30_, ?_⟩) hHeld ?_ ?_; rotate_left
                ·exact u17_
                rotate_left
                ·exact u0_
                refine pure_ (i := 9) (N := some 103) (v := ?_) (a' := ?_) (bm_ 29 1023) rfl rfl (any_of HT_.out u8_) (fun _ _ _ h => h) (Or.inl ⟨u30_, ?_⟩) ?_ ?_; rotate_left
                ·exact u5_
                rotate_left
                ·exact u0_
                refine pure_ (i := 10) (N := some 104) (v := ?_) (a' := ?_) (bm_ 29 2047) rfl rfl (any_of HT_.out u8_) (fun _ _ _ h => h) (Or.inl ⟨u30_, ?_⟩) ?_ ?_; rotate_left
                ·exact u5_
                rotate_left
                ·exact u0_
                refine pure_ (i := 11) (N := some 105) (v := ?_) (a' := ?_) (bm_ 29 4095) rfl rfl (any_of HT_.out u8_) (fun _ _ _ h => h) (Or.inl ⟨u30_, ?_⟩) ?_ ?_; rotate_left
                ·exact u5_
                rotate_left
                ·exact u0_
                refine pure_ (i := 12) (N := some 106) (v := ?_) (a' := ?_) (bm_ 29 8191) rfl rfl (any_of HT_.out u8_) (fun _ _ _ h => h) (Or.inl ⟨u30_, ?_⟩) ?_ ?_; rotate_left
                ·exact u5_
                rotate_left
                ·exact u0_
                refine pure_ (i := 13) (N := some 107) (v := ?_) (a' := ?_) (bm_ 29 16383) rfl rfl (any_of HT_.out u8_) (fun _ _ _ h => h) (Or.inl ⟨u30_, ?_⟩) ?_ ?_; rotate_left
                ·exact u5_
                rotate_left
                ·exact u0_
                refine pure_ (i := 16) (N := some 110) (v := ?_) (a' := ?_) (bm_ 29 81919) rfl rfl (any_of HT_.out u8_) (fun _ _ _ h => h) (Or.inl ⟨u30_, ?_⟩) ?_ ?_; rotate_left
                ·exact u5_
                rotate_left
                ·exact u0_
                refine take_ (i := 14) (N := some 108) (v := ?_) (a' := ?_) (bm_ 29 98303) rfl rfl (take_ofW HT_.out HW_.out u8_) (fun _ _ _ h => h) (Or.inl ⟨u30_, ?_⟩) hHeld ?_ ?_; rotate_left
                ·exact u17_
                rotate_left
                ·exact u0_
                refine take_ (i := 17) (N := some 111) (v := ?_) (a' := ?_) (bm_ 29 229375) rfl rfl (take_ofW HT_.out HW_.out u8_) (fun _ _ _ h => h) (Or.inl ⟨u30_, ?_⟩) hHeld ?_ ?_; rotate_left
                ·exact u17_
                rotate_left
                ·exact u0_
                refine one_ (i := 15) (N := some 109) (bm_ 29 262143) rfl rfl (one_of HT_.out u8_) u73_ (fun K hK => ?_); refine goes_ Tryd.func20 u8_ rfl #[.string a0_2] u30_ rfl rfl u4_ ?_; with_reducible refine (impl_Fold.calls a0_2 t201 _ A62.out).mono ?_
                rintro e w66 ⟨rfl, hb⟩; refine ⟨_, rfl, ?_⟩; replace BK195 := am_ (blk_below (g := gb195) (o := .cells #[.int .i64 a0_0, .string a0_1, .string a0_2, .int .i64 a0_3, .int .i64 a0_4, .slice A0_5 l0_5.length c0_5] 29 (0, 0)) u11_ hb); replace HB := am_ (below_step u3_ hb); (try clear hb)
                (try clear hb2)
                (try clear hk)
                (try clear hi)
                refine hK.out _ _ ⟨(blk_cell BK195.out 0).trans rfl, (blk_cell BK195.out 1).trans rfl, (blk_cell BK195.out 2).trans rfl, (blk_cell BK195.out 3).trans rfl, (blk_cell BK195.out 4).trans rfl, (blk_cell BK195.out 5).trans rfl⟩ (fun hHeld => ?_); clear hK K; refine norm_ (a' := ?_) ?_ ?_; rotate_left
                ·show Act.put _ (some 109) _ = _
                 simp only [Act.put, List.setIfInBounds_toArray, List.set_cons_zero, List.set_cons_succ, i64_w, i32_w]; rfl
                refine pure_ (i := 18) (N := some 112) (v := ?_) (a' := ?_) (bm_ 29 524287) rfl rfl (any_of HT_.out u8_) (fun _ _ _ h => h) (Or.inl ⟨u30_, ?_⟩) ?_ ?_; rotate_left
                ·exact u5_
                rotate_left
                ·exact u0_
                refine pure_ (i := 19) (N := some 113) (v := ?_) (a' := ?_) (bm_ 29 1048575) rfl rfl (any_of HT_.out u8_) (fun _ _ _ h => h) (Or.inl ⟨u30_, ?_⟩) ?_ ?_; rotate_left
                ·exact u5_
                rotate_left
                ·exact u0_
                refine pure_ (i := 20) (N := some 114) (v := ?_) (a' := ?_) (bm_ 29 2097151) rfl rfl (any_of HT_.out u8_) (fun _ _ _ h => h) (Or.inl ⟨u30_, ?_⟩) ?_ ?_; rotate_left
                ·exact u5_
                rotate_left
                ·exact u0_
                refine pure_ (i := 21) (N := some 115) (v := ?_) (a' := ?_) (bm_ 29 4194303) rfl rfl (any_of HT_.out u8_) (fun _ _ _ h => h) (Or.inl ⟨u30_, ?_⟩) ?_ ?_; rotate_left
                ·exact u5_
                rotate_left
                ·exact u0_
                refine pure_ (i := 22) (N := some 116) (v := ?_) (a' := ?_) (bm_ 29 8388607) rfl rfl (any_of HT_.out u8_) (fun _ _ _ h => h) (Or.inl ⟨u30_, ?_⟩) ?_ ?_; rotate_left
                ·exact u5_
                rotate_left
                ·exact u0_
                refine pure_ (i := 23) (N := some 117) (v := ?_) (a' := ?_) (bm_ 29 16777215) rfl rfl (any_of HT_.out u8_) (fun _ _ _ h => h) (Or.inl ⟨u30_, ?_⟩) ?_ ?_; rotate_left
                ·exact u5_
                rotate_left
                ·exact u0_
                refine pure_ (i := 24) (N := some 118) (v := ?_) (a' := ?_) (bm_ 29 33554431) rfl rfl (any_of HT_.out u8_) (fun _ _ _ h => h) (Or.inl ⟨u30_, ?_⟩) ?_ ?_; rotate_left
                ·exact u5_
                rotate_left
                ·exact u0_
                refine pure_ (i := 25) (N := some 119) (v := undef) (a' := ?_) (bm_ 29 67108863) rfl rfl (any_of HT_.out u8_) (fun _ _ _ h => h) (Or.inr ⟨u30_, rfl⟩) ?_ ?_; rotate_left
                ·exact u0_
                refine pure_ (i := 26) (N := some 120) (v := undef) (a' := ?_) (bm_ 29 134217727) rfl rfl (any_of HT_.out u8_) (fun _ _ _ h => h) (Or.inr ⟨u30_, rfl⟩) ?_ ?_; rotate_left
                ·exact u0_
                refine pure_ (i := 27) (N := some 121) (v := ?_) (a' := ?_) (bm_ 29 268435455) rfl rfl (any_of HT_.out u8_) (fun _ _ _ h => h) (Or.inl ⟨u30_, ?_⟩) ?_ ?_; rotate_left
                ·exact u5_
                rotate_left
                ·exact u0_
                refine pure_ (i := 28) (N := some 4) (v := ?_) (a' := ?_) (bm_ 29 536870911) rfl rfl (any_of HT_.out u8_) (fun _ _ _ h => h) (Or.inl ⟨u30_, ?_⟩) ?_ ?_; rotate_left
                ·exact u5_
                rotate_left
                ·exact u0_
                refine done_ (done_of HT_.out u8_) ?_; try go_wp2
                go_ret
                exact ⟨u2_, u3_⟩
               ·replace c64 := Bool.eq_false_iff.mpr c64; subst c64; rw [if_neg (show ¬ (false = true) by decide)] at H; obtain rfl := Option.some.inj H; try go_wp2
                replace BK195 := am_ (blk_drew BK195.out); replace HB := am_ (below_drew1 HB.out); refine start_ (n := 29) (S := fun w' => w'.cell? ⟨gb195, 0, none⟩ = some (.int .i64 a0_0) ∧ w'.cell? ⟨gb195, 1, none⟩ = some (.string a0_1) ∧ w'.cell? ⟨gb195, 2, none⟩ = some (.string a0_2) ∧ w'.cell? ⟨gb195, 3, none⟩ = some (.int .i64 a0_3) ∧ w'.cell? ⟨gb195, 4, none⟩ = some (.int .i64 a0_4) ∧ w'.cell? ⟨gb195, 5, none⟩ = some (.slice A0_5 l0_5.length c0_5)) (ds := []) (bm_ 29 0) u8_ rfl rfl ⟨(blk_cell BK195.out 0).trans rfl, (blk_cell BK195.out 1).trans rfl, (blk_cell BK195.out 2).trans rfl, (blk_cell BK195.out 3).trans rfl, (blk_cell BK195.out 4).trans rfl, (blk_cell BK195.out 5).trans rfl⟩ (fun hHeld => ?_); refine with_tabW impl_Query_ok.tab14 impl_Query_ok.bits14 (fun HT_ HW_ => ?_); generalize wc.drew = w67 at BK195 HB hHeld ⊢; refine pure_ (i := 0) (N := some 94) (v := ?_) (a' := ?_) (bm_ 29 1) rfl rfl (any_of HT_.out u8_) (fun _ _ _ h => h) (Or.inl ⟨u30_, ?_⟩) ?_ ?_; rotate_left
                ·exact u5_
                rotate_left
                ·exact u0_
                refine pure_ (i := 1) (N := some 95) (v := ?_) (a' := ?_) (bm_ 29 3) rfl rfl (any_of HT_.out u8_) (fun _ _ _ h => h) (Or.inl ⟨u30_, ?_⟩) ?_ ?_; rotate_left
                ·exact u5_
                rotate_left
                ·exact u0_
                refine pure_ (i := 2) (N := some 96) (v := ?_) (a' := ?_) (bm_ 29 7) rfl rfl (any_of HT_.out u8_) (fun _ _ _ h => h) (Or.inl ⟨u30_, ?_⟩) ?_ ?_; rotate_left
                ·exact u5_
                rotate_left
                ·exact u0_
                refine take_ (i := 3) (N := some 97) (v := ?_) (a' := ?_) (bm_ 29 15) rfl rfl (take_ofW HT_.out HW_.out u8_) (fun _ _ _ h => h) (Or.inl ⟨u30_, ?_⟩) hHeld ?_ ?_; rotate_left
                ·exact u17_
                rotate_left
                ·exact u0_
                refine one_ (i := 4) (N := some 98) (bm_ 29 31) rfl rfl (one_of HT_.out u8_) u73_ (fun K hK => ?_); refine goes_ Tryd.func19 u8_ rfl #[.string a0_2] u30_ rfl rfl u4_ ?_; with_reducible refine (impl_isWord.calls kj9 a0_2 true _ A59.out).mono ?_
                rintro e w' ⟨rfl, ⟨nd, rfl⟩⟩; refine ⟨_, rfl, ?_⟩; refine hK.out _ _ ⟨(blk_cell BK195.out 0).trans rfl, (blk_cell BK195.out 1).trans rfl, (blk_cell BK195.out 2).trans rfl, (blk_cell BK195.out 3).trans rfl, (blk_cell BK195.out 4).trans rfl, (blk_cell BK195.out 5).trans rfl⟩ (fun hHeld => ?_); clear hK K; refine norm_ (a' := ?_) ?_ ?_; rotate_left
                ·show Act.put _ (some 98) _ = _
                 simp only [Act.put, List.setIfInBounds_toArray, List.set_cons_zero, List.set_cons_succ, i64_w, i32_w]; rfl
                refine pure_ (i := 5) (N := some 99) (v := ?_) (a' := ?_) (bm_ 29 63) rfl rfl (any_of HT_.out u8_) (fun _ _ _ h => h) (Or.inl ⟨u30_, ?_⟩) ?_ ?_; rotate_left
                ·exact u5_
                rotate_left
                ·exact u0_
                refine pure_ (i := 6) (N := some 100) (v := ?_) (a' := ?_) (bm_ 29 127) rfl rfl (any_of HT_.out u8_) (fun _ _ _ h => h) (Or.inl ⟨u30_, ?_⟩) ?_ ?_; rotate_left
                ·exact u5_
                rotate_left
                ·exact u0_
                refine pure_ (i := 7) (N := some 101) (v := ?_) (a' := ?_) (bm_ 29 255) rfl rfl (any_of HT_.out u8_) (fun _ _ _ h => h) (Or.inl ⟨u30_, ?_⟩) ?_ ?_; rotate_left
                ·exact u5_
                rotate_left
                ·exact u0_
                refine take_ (i := 8) (N := some 102) (v := ?_) (a' := ?_) (bm_ 29 511) rfl rfl (take_ofW HT_.out HW_.out u8_) (fun _ _ _ h => h) (Or.inl ⟨u30_, ?_⟩) hHeld ?_ ?_; rotate_left
                ·exact u17_
                rotate_left
                ·exact u0_
                refine pure_ (i := 9) (N := some 103) (v := ?_) (a' := ?_) (bm_ 29 1023) rfl rfl (any_of HT_.out u8_) (fun _ _ _ h => h) (Or.inl ⟨u30_, ?_⟩) ?_ ?_; rotate_left
                ·exact u5_
                rotate_left
                ·exact u0_
                refine pure_ (i := 10) (N := some 104) (v := ?_) (a' := ?_) (bm_ 29 2047) rfl rfl (any_of HT_.out u8_) (fun _ _ _ h => h) (Or.inl ⟨u30_, ?_⟩) ?_ ?_; rotate_left
                ·exact u5_
                rotate_left
                ·exact u0_
                refine pure_ (i := 11) (N := some 105) (v := ?_) (a' := ?_) (bm_ 29 4095) rfl rfl (any_of HT_.out u8_) (fun _ _ _ h => h) (Or.inl ⟨u30_, ?_⟩) ?_ ?_; rotate_left
                ·exact u5_
                rotate_left
                ·exact u0_
                refine pure_ (i := 12) (N := some 106) (v := ?_) (a' := ?_) (bm_ 29 8191) rfl rfl (any_of HT_.out u8_) (fun _ _ _ h => h) (Or.inl ⟨u30_, ?_⟩) ?_ ?_; rotate_left
                ·exact u5_
                rotate_left
                ·exact u0_
                refine pure_ (i := 13) (N := some 107) (v := ?_) (a' := ?_) (bm_ 29 16383) rfl rfl (any_of HT_.out u8_) (fun _ _ _ h => h) (Or.inl ⟨u30_, ?_⟩) ?_ ?_; rotate_left
                ·exact u5_
                rotate_left
                ·exact u0_
                refine pure_ (i := 16) (N := some 110) (v := ?_) (a' := ?_) (bm_ 29 81919) rfl rfl (any_of HT_.out u8_) (fun _ _ _ h => h) (Or.inl ⟨u30_, ?_⟩) ?_ ?_; rotate_left
                ·exact u5_
                rotate_left
                ·exact u0_
                refine take_ (i := 14) (N := some 108) (v := ?_) (a' := ?_) (bm_ 29 98303) rfl rfl (take_ofW HT_.out HW_.out u8_) (fun _ _ _ h => h) (Or.inl ⟨u30_, ?_⟩) hHeld ?_ ?_; rotate_left
                ·exact u17_
                rotate_left
                ·exact u0_
                refine take_ (i := 17) (N := some 111) (v := ?_) (a' := ?_) (bm_ 29 229375) rfl rfl (take_ofW HT_.out HW_.out u8_) (fun _ _ _ h => h) (Or.inl ⟨u30_, ?_⟩) hHeld ?_ ?_; rotate_left
                ·exact u17_
                rotate_left
                ·exact u0_
                refine one_ (i := 15) (N := some 109) (bm_ 29 262143) rfl rfl (one_of HT_.out u8_) u73_ (fun K hK => ?_); refine goes_ Tryd.func20 u8_ rfl #[.string a0_2] u30_ rfl rfl u4_ ?_; with_reducible refine (impl_Fold.calls a0_2 t201 _ A62.out).mono ?_
                rintro e w68 ⟨rfl, hb⟩; refine ⟨_, rfl, ?_⟩; replace BK195 := am_ (blk_below (g := gb195) (o := .cells #[.int .i64 a0_0, .string a0_1, .string a0_2, .int .i64 a0_3, .int .i64 a0_4, .slice A0_5 l0_5.length c0_5] 29 (0, 0)) u11_ hb); replace HB := am_ (below_step u3_ hb); (try clear hb)
                (try clear hb2)
                (try clear hk)
                (try clear hi)
                refine hK.out _ _ ⟨(blk_cell BK195.out 0).trans rfl, (blk_cell BK195.out 1).trans rfl, (blk_cell BK195.out 2).trans rfl, (blk_cell BK195.out 3).trans rfl, (blk_cell BK195.out 4).trans rfl, (blk_cell BK195.out 5).trans rfl⟩ (fun hHeld => ?_); clear hK K; refine norm_ (a' := ?_) ?_ ?_; rotate_left
                ·show Act.put _ (some 109) _ = _
                 simp only [Act.put, List.setIfInBounds_toArray, List.set_cons_zero, List.set_cons_succ, i64_w, i32_w]; rfl
                refine pure_ (i := 18) (N := some 112) (v := ?_) (a' := ?_) (bm_ 29 524287) rfl rfl (any_of HT_.out u8_) (fun _ _ _ h => h) (Or.inl ⟨u30_, ?_⟩) ?_ ?_; rotate_left
                ·exact u5_
                rotate_left
                ·exact u0_
                refine pure_ (i := 19) (N := some 113) (v := ?_) (a' := ?_) (bm_ 29 1048575) rfl rfl (any_of HT_.out u8_) (fun _ _ _ h => h) (Or.inl ⟨u30_, ?_⟩) ?_ ?_; rotate_left
                ·exact u5_
                rotate_left
                ·exact u0_
                refine pure_ (i := 20) (N := some 114) (v := ?_) (a' := ?_) (bm_ 29 2097151) rfl rfl (any_of HT_.out u8_) (fun _ _ _ h => h) (Or.inl ⟨u30_, ?_⟩) ?_ ?_; rotate_left
                ·exact u5_
                rotate_left
                ·exact u0_
                refine pure_ (i := 21) (N := some 115) (v := ?_) (a' := ?_) (bm_ 29 4194303) rfl rfl (any_of HT_.out u8_) (fun _ _ _ h => h) (Or.inl ⟨u30_, ?_⟩) ?_ ?_; rotate_left
                ·exact u5_
                rotate_left
                ·exact u0_
                refine pure_ (i := 22) (N := some 116) (v := ?_) (a' := ?_) (bm_ 29 8388607) rfl rfl (any_of HT_.out u8_) (fun _ _ _ h => h) (Or.inl ⟨u30_, ?_⟩) ?_ ?_; rotate_left
                ·exact u5_
                rotate_left
                ·exact u0_
                refine pure_ (i := 23) (N := some 117) (v := ?_) (a' := ?_) (bm_ 29 16777215) rfl rfl (any_of HT_.out u8_) (fun _ _ _ h => h) (Or.inl ⟨u30_, ?_⟩) ?_ ?_; rotate_left
                ·exact u5_
                rotate_left
                ·exact u0_
                refine pure_ (i := 24) (N := some 118) (v := ?_) (a' := ?_) (bm_ 29 33554431) rfl rfl (any_of HT_.out u8_) (fun _ _ _ h => h) (Or.inl ⟨u30_, ?_⟩) ?_ ?_; rotate_left
                ·exact u5_
                rotate_left
                ·exact u0_
                refine pure_ (i := 25) (N := some 119) (v := ?_) (a' := ?_) (bm_ 29 67108863) rfl rfl (any_of HT_.out u8_) (fun _ _ _ h => h) (Or.inl ⟨u30_, ?_⟩) ?_ ?_; rotate_left
                ·exact u5_
                rotate_left
                ·exact u0_
                refine pure_ (i := 26) (N := some 120) (v := ?_) (a' := ?_) (bm_ 29 134217727) rfl rfl (any_of HT_.out u8_) (fun _ _ _ h => h) (Or.inl ⟨u30_, ?_⟩) ?_ ?_; rotate_left
                ·exact u5_
                rotate_left
                ·exact u0_
                refine pure_ (i := 27) (N := some 121) (v := ?_) (a' := ?_) (bm_ 29 268435455) rfl rfl (any_of HT_.out u8_) (fun _ _ _ h => h) (Or.inl ⟨u30_, ?_⟩) ?_ ?_; rotate_left
                ·exact u5_
                rotate_left
                ·exact u0_
                refine pure_ (i := 28) (N := some 4) (v := ?_) (a' := ?_) (bm_ 29 536870911) rfl rfl (any_of HT_.out u8_) (fun _ _ _ h => h) (Or.inl ⟨u30_, ?_⟩) ?_ ?_; rotate_left
                ·exact u5_
                rotate_left
                ·exact u0_
                refine done_ (done_of HT_.out u8_) ?_; try go_wp2
                go_ret
                exact ⟨u2_, u3_⟩
              ·rw [if_neg c63] at H; have c63b0 : (t201.toList == a0_2.toList) = false := beq_eq_false_iff_ne.mpr c63; have c63b1 : (t201.toList != a0_2.toList) = true := bne_iff_ne.mpr c63; obtain rfl := Option.some.inj H; try go_wp2
               replace BK195 := am_ (blk_drew BK195.out); replace HB := am_ (below_drew1 HB.out); refine start_ (n := 29) (S := fun w' => w'.cell? ⟨gb195, 0, none⟩ = some (.int .i64 a0_0) ∧ w'.cell? ⟨gb195, 1, none⟩ = some (.string a0_1) ∧ w'.cell? ⟨gb195, 2, none⟩ = some (.string a0_2) ∧ w'.cell? ⟨gb195, 3, none⟩ = some (.int .i64 a0_3) ∧ w'.cell? ⟨gb195, 4, none⟩ = some (.int .i64 a0_4) ∧ w'.cell? ⟨gb195, 5, none⟩ = some (.slice A0_5 l0_5.length c0_5)) (ds := []) (bm_ 29 0) u8_ rfl rfl ⟨(blk_cell BK195.out 0).trans rfl, (blk_cell BK195.out 1).trans rfl, (blk_cell BK195.out 2).trans rfl, (blk_cell BK195.out 3).trans rfl, (blk_cell BK195.out 4).trans rfl, (blk_cell BK195.out 5).trans rfl⟩ (fun hHeld => ?_); refine with_tabW impl_Query_ok.tab14 impl_Query_ok.bits14 (fun HT_ HW_ => ?_); generalize wc.drew = w69 at BK195 HB hHeld ⊢; refine pure_ (i := 0) (N := some 94) (v := ?_) (a' := ?_) (bm_ 29 1) rfl rfl (any_of HT_.out u8_) (fun _ _ _ h => h) (Or.inl ⟨u30_, ?_⟩) ?_ ?_; rotate_left
               ·exact u5_
               rotate_left
               ·exact u0_
               refine pure_ (i := 1) (N := some 95) (v := ?_) (a' := ?_) (bm_ 29 3) rfl rfl (any_of HT_.out u8_) (fun _ _ _ h => h) (Or.inl ⟨u30_, ?_⟩) ?_ ?_; rotate_left
               ·exact u5_
               rotate_left
               ·exact u0_
               refine pure_ (i := 2) (N := some 96) (v := ?_) (a' := ?_) (bm_ 29 7) rfl rfl (any_of HT_.out u8_) (fun _ _ _ h => h) (Or.inl ⟨u30_, ?_⟩) ?_ ?_; rotate_left
               ·exact u5_
               rotate_left
               ·exact u0_
               refine take_ (i := 3) (N := some 97) (v := ?_) (a' := ?_) (bm_ 29 15) rfl rfl (take_ofW HT_.out HW_.out u8_) (fun _ _ _ h => h) (Or.inl ⟨u30_, ?_⟩) hHeld ?_ ?_; rotate_left
               ·exact u17_
               rotate_left
               ·exact u0_
               refine one_ (i := 4) (N := some 98) (bm_ 29 31) rfl rfl (one_of HT_.out u8_) u73_ (fun K hK => ?_); refine goes_ Tryd.func19 u8_ rfl #[.string a0_2] u30_ rfl rfl u4_ ?_; with_reducible refine (impl_isWord.calls kj9 a0_2 true _ A59.out).mono ?_
               rintro e w' ⟨rfl, ⟨nd, rfl⟩⟩; refine ⟨_, rfl, ?_⟩; refine hK.out _ _ ⟨(blk_cell BK195.out 0).trans rfl, (blk_cell BK195.out 1).trans rfl, (blk_cell BK195.out 2).trans rfl, (blk_cell BK195.out 3).trans rfl, (blk_cell BK195.out 4).trans rfl, (blk_cell BK195.out 5).trans rfl⟩ (fun hHeld => ?_); clear hK K; refine norm_ (a' := ?_) ?_ ?_; rotate_left
               ·show Act.put _ (some 98) _ = _
                simp only [Act.put, List.setIfInBounds_toArray, List.set_cons_zero, List.set_cons_succ, i64_w, i32_w]; rfl
               refine pure_ (i := 5) (N := some 99) (v := ?_) (a' := ?_) (bm_ 29 63) rfl rfl (any_of HT_.out u8_) (fun _ _ _ h => h) (Or.inl ⟨u30_, ?_⟩) ?_ ?_; rotate_left
               ·exact u5_
               rotate_left
               ·exact u0_
               refine pure_ (i := 6) (N := some 100) (v := ?_) (a' := ?_) (bm_ 29 127) rfl rfl (any_of HT_.out u8_) (fun _ _ _ h => h) (Or.inl ⟨u30_, ?_⟩) ?_ ?_; rotate_left
               ·exact u5_
               rotate_left
               ·exact u0_
               refine pure_ (i := 7) (N := some 101) (v := ?_) (a' := ?_) (bm_ 29 255) rfl rfl (any_of HT_.out u8_) (fun _ _ _ h => h) (Or.inl ⟨u30_, ?_⟩) ?_ ?_; rotate_left
               ·exact u5_
               rotate_left
               ·exact u0_
               refine take_ (i := 8) (N := some 102) (v := ?_) (a' := ?_) (bm_ 29 511) rfl rfl (take_ofW HT_.out HW_.out u8_) (fun _ _ _ h => h) (Or.inl ⟨u30_, ?_⟩) hHeld ?_ ?_; rotate_left
               ·exact u17_
               rotate_left
               ·exact u0_
               refine pure_ (i := 9) (N := some 103) (v := ?_) (a' := ?_) (bm_ 29 1023) rfl rfl (any_of HT_.out u8_) (fun _ _ _ h => h) (Or.inl ⟨u30_, ?_⟩) ?_ ?_; rotate_left
               ·exact u5_
               rotate_left
               ·exact u0_
               refine pure_ (i := 10) (N := some 104) (v := ?_) (a' := ?_) (bm_ 29 2047) rfl rfl (any_of HT_.out u8_) (fun _ _ _ h => h) (Or.inl ⟨u30_, ?_⟩) ?_ ?_; rotate_left
               ·exact u5_
               rotate_left
               ·exact u0_
               refine pure_ (i := 11) (N := some 105) (v := ?_) (a' := ?_) (bm_ 29 4095) rfl rfl (any_of HT_.out u8_) (fun _ _ _ h => h) (Or.inl ⟨u30_, ?_⟩) ?_ ?_; rotate_left
               ·exact u5_
               rotate_left
               ·exact u0_
               refine pure_ (i := 12) (N := some 106) (v := ?_) (a' := ?_) (bm_ 29 8191) rfl rfl (any_of HT_.out u8_) (fun _ _ _ h => h) (Or.inl ⟨u30_, ?_⟩) ?_ ?_; rotate_left
               ·exact u5_
               rotate_left
               ·exact u0_
               refine pure_ (i := 13) (N := some 107) (v := ?_) (a' := ?_) (bm_ 29 16383) rfl rfl (any_of HT_.out u8_) (fun _ _ _ h => h) (Or.inl ⟨u30_, ?_⟩) ?_ ?_; rotate_left
               ·exact u5_
               rotate_left
               ·exact u0_
               refine pure_ (i := 16) (N := some 110) (v := ?_) (a' := ?_) (bm_ 29 81919) rfl rfl (any_of HT_.out u8_) (fun _ _ _ h => h) (Or.inl ⟨u30_, ?_⟩) ?_ ?_; rotate_left
               ·exact u5_
               rotate_left
               ·exact u0_
               refine take_ (i := 14) (N := some 108) (v := ?_) (a' := ?_) (bm_ 29 98303) rfl rfl (take_ofW HT_.out HW_.out u8_) (fun _ _ _ h => h) (Or.inl ⟨u30_, ?_⟩) hHeld ?_ ?_; rotate_left
               ·exact u17_
               rotate_left
               ·exact u0_
               refine take_ (i := 17) (N := some 111) (v := ?_) (a' := ?_) (bm_ 29 229375) rfl rfl (take_ofW HT_.out HW_.out u8_) (fun _ _ _ h => h) (Or.inl ⟨u30_, ?_⟩) hHeld ?_ ?_; rotate_left
               ·exact u17_
               rotate_left
               ·exact u0_
               refine one_ (i := 15) (N := some 109) (bm_ 29 262143) rfl rfl (one_of HT_.out u8_) u73_ (fun K hK => ?_); refine goes_ Tryd.func20 u8_ rfl #[.string a0_2] u30_ rfl rfl u4_ ?_; with_reducible refine (impl_Fold.calls a0_2 t201 _ A62.out).mono ?_
               rintro e w70 ⟨rfl, hb⟩; refine ⟨_, rfl, ?_⟩; replace BK195 := am_ (blk_below (g := gb195) (o := .cells #[.int .i64 a0_0, .string a0_1, .string a0_2, .int .i64 a0_3, .int .i64 a0_4, .slice A0_5 l0_5.length c0_5] 29 (0, 0)) u11_ hb); replace HB := am_ (below_step u3_ hb); (try clear hb)
               (try clear hb2)
               (try clear hk)
               (try clear hi)
               refine hK.out _ _ ⟨(blk_cell BK195.out 0).trans rfl, (blk_cell BK195.out 1).trans rfl, (blk_cell BK195.out 2).trans rfl, (blk_cell BK195.out 3).trans rfl, (blk_cell BK195.out 4).trans rfl, (blk_cell BK195.out 5).trans rfl⟩ (fun hHeld => ?_); clear hK K; refine norm_ (a' := ?_) ?_ ?_; rotate_left
               ·show Act.put _ (some 109) _ = _
                simp only [Act.put, List.setIfInBounds_toArray, List.set_cons_zero, List.set_cons_succ, i64_w, i32_w]; rfl
               refine pure_ (i := 18) (N := some 112) (v := ?_) (a' := ?_) (bm_ 29 524287) rfl rfl (any_of HT_.out u8_) (fun _ _ _ h => h) (Or.inl ⟨u30_, ?_⟩) ?_ ?_; rotate_left
               ·exact u5_
               rotate_left
               ·exact u0_
               refine pure_ (i := 19) (N := some 113) (v := ?_) (a' := ?_) (bm_ 29 1048575) rfl rfl (any_of HT_.out u8_) (fun _ _ _ h => h) (Or.inl ⟨u30_, ?_⟩) ?_ ?_; rotate_left
               ·exact u5_
               rotate_left
               ·exact u0_
               refine pure_ (i := 20) (N := some 114) (v := ?_) (a' := ?_) (bm_ 29 2097151) rfl rfl (any_of HT_.out u8_) (fun _ _ _ h => h) (Or.inl ⟨u30_, ?_⟩) ?_ ?_; rotate_left
               ·exact u5_
               rotate_left
               ·exact u0_
               refine pure_ (i := 21) (N := some 115) (v := undef) (a' := ?_) (bm_ 29 4194303) rfl rfl (any_of HT_.out u8_) (fun _ _ _ h => h) (Or.inr ⟨u30_, rfl⟩) ?_ ?_; rotate_left
               ·exact u0_
               refine pure_ (i := 22) (N := some 116) (v := undef) (a' := ?_) (bm_ 29 8388607) rfl rfl (any_of HT_.out u8_) (fun _ _ _ h => h) (Or.inr ⟨u30_, rfl⟩) ?_ ?_; rotate_left
               ·exact u0_
               refine pure_ (i := 23) (N := some 117) (v := ?_) (a' := ?_) (bm_ 29 16777215) rfl rfl (any_of HT_.out u8_) (fun _ _ _ h => h) (Or.inl ⟨u30_, ?_⟩) ?_ ?_; rotate_left
               ·exact u5_
               rotate_left
               ·exact u0_
               refine pure_ (i := 24) (N := some 118) (v := ?_) (a' := ?_) (bm_ 29 33554431) rfl rfl (any_of HT_.out u8_) (fun _ _ _ h => h) (Or.inl ⟨u30_, ?_⟩) ?_ ?_; rotate_left
               ·exact u5_
               rotate_left
               ·exact u0_
               refine pure_ (i := 25) (N := some 119) (v := undef) (a' := ?_) (bm_ 29 67108863) rfl rfl (any_of HT_.out u8_) (fun _ _ _ h => h) (Or.inr ⟨u30_, rfl⟩) ?_ ?_; rotate_left
               ·exact u0_
               refine pure_ (i := 26) (N := some 120) (v := undef) (a' := ?_) (bm_ 29 134217727) rfl rfl (any_of HT_.out u8_) (fun _ _ _ h => h) (Or.inr ⟨u30_, rfl⟩) ?_ ?_; rotate_left
               ·exact u0_
               refine pure_ (i := 27) (N := some 121) (v := ?_) (a' := ?_) (bm_ 29 268435455) rfl rfl (any_of HT_.out u8_) (fun _ _ _ h => h) (Or.inl ⟨u30_, ?_⟩) ?_ ?_; rotate_left
               ·exact u5_
               rotate_left
               ·exact u0_
               refine pure_ (i := 28) (N := some 4) (v := ?_) (a' := ?_) (bm_ 29 536870911) rfl rfl (any_of HT_.out u8_) (fun _ _ _ h => h) (Or.inl ⟨u30_, ?_⟩) ?_ ?_; rotate_left
               ·exact u5_
               rotate_left
               ·exact u0_
               refine done_ (done_of HT_.out u8_) ?_; try go_wp2
               go_ret
               exact ⟨u2_, u3_⟩
             ·rw [if_neg c61] at H; have c61b0 : decide ((a0_2.size : Int) ≤ 12) = false := decide_eq_false c61; have c61b1 : decide (a0_2.size ≤ 12) = false := decide_eq_false u52_; clear c61; obtain rfl := Option.some.inj H; try go_wp2
              replace BK195 := am_ (blk_drew BK195.out); replace HB := am_ (below_drew1 HB.out); refine start_ (n := 29) (S := fun w' => w'.cell? ⟨gb195, 0, none⟩ = some (.int .i64 a0_0) ∧ w'.cell? ⟨gb195, 1, none⟩ = some (.string a0_1) ∧ w'.cell? ⟨gb195, 2, none⟩ = some (.string a0_2) ∧ w'.cell? ⟨gb195, 3, none⟩ = some (.int .i64 a0_3) ∧ w'.cell? ⟨gb195, 4, none⟩ = some (.int .i64 a0_4) ∧ w'.cell? ⟨gb195, 5, none⟩ = some (.slice A0_5 l0_5.length c0_5)) (ds := []) (bm_ 29 0) u8_ rfl rfl ⟨(blk_cell BK195.out 0).trans rfl, (blk_cell BK195.out 1).trans rfl, (blk_cell BK195.out 2).trans rfl, (blk_cell BK195.out 3).trans rfl, (blk_cell BK195.out 4).trans rfl, (blk_cell BK195.out 5).trans rfl⟩ (fun hHeld => ?_); refine with_tabW impl_Query_ok.tab14 impl_Query_ok.bits14 (fun HT_ HW_ => ?_); generalize wc.drew = w71 at BK195 HB hHeld ⊢; refine pure_ (i := 0) (N := some 94) (v := ?_) (a' := ?_) (bm_ 29 1) rfl rfl (any_of HT_.out u8_) (fun _ _ _ h => h) (Or.inl ⟨u30_, ?_⟩) ?_ ?_; rotate_left
              ·exact u5_
              rotate_left
              ·exact u0_
              refine pure_ (i := 1) (N := some 95) (v := ?_) (a' := ?_) (bm_ 29 3) rfl rfl (any_of HT_.out u8_) (fun _ _ _ h => h) (Or.inl ⟨u30_, ?_⟩) ?_ ?_; rotate_left
              ·exact u5_
              rotate_left
              ·exact u0_
              refine pure_ (i := 2) (N := some 96) (v := ?_) (a' := ?_) (bm_ 29 7) rfl rfl (any_of HT_.out u8_) (fun _ _ _ h => h) (Or.inl ⟨u30_, ?_⟩) ?_ ?_; rotate_left
              ·exact u5_
              rotate_left
              ·exact u0_
              refine take_ (i := 3) (N := some 97) (v := ?_) (a' := ?_) (bm_ 29 15) rfl rfl (take_ofW HT_.out HW_.out u8_) (fun _ _ _ h => h) (Or.inl ⟨u30_, ?_⟩) hHeld ?_ ?_; rotate_left
              ·exact u17_
              rotate_left
              ·exact u0_
              refine one_ (i := 4) (N := some 98) (bm_ 29 31) rfl rfl (one_of HT_.out u8_) u73_ (fun K hK => ?_); refine goes_ Tryd.func19 u8_ rfl #[.string a0_2] u30_ rfl rfl u4_ ?_; with_reducible refine (impl_isWord.calls kj9 a0_2 true _ A59.out).mono ?_
              rintro e w' ⟨rfl, ⟨nd, rfl⟩⟩; refine ⟨_, rfl, ?_⟩; refine hK.out _ _ ⟨(blk_cell BK195.out 0).trans rfl, (blk_cell BK195.out 1).trans rfl, (blk_cell BK195.out 2).trans rfl, (blk_cell BK195.out 3).trans rfl, (blk_cell BK195.out 4).trans rfl, (blk_cell BK195.out 5).trans rfl⟩ (fun hHeld => ?_); clear hK K; refine norm_ (a' := ?_) ?_ ?_; rotate_left
              ·show Act.put _ (some 98) _ = _
               simp only [Act.put, List.setIfInBounds_toArray, List.set_cons_zero, List.set_cons_succ, i64_w, i32_w]; rfl
              refine pure_ (i := 5) (N := some 99) (v := ?_) (a' := ?_) (bm_ 29 63) rfl rfl (any_of HT_.out u8_) (fun _ _ _ h => h) (Or.inl ⟨u30_, ?_⟩) ?_ ?_; rotate_left
              ·exact u5_
              rotate_left
              ·exact u0_
              refine pure_ (i := 6) (N := some 100) (v := ?_) (a' := ?_) (bm_ 29 127) rfl rfl (any_of HT_.out u8_) (fun _ _ _ h => h) (Or.inl ⟨u30_, ?_⟩) ?_ ?_; rotate_left
              ·exact u5_
              rotate_left
              ·exact u0_
              refine pure_ (i := 7) (N := some 101) (v := ?_) (a' := ?_) (bm_ 29 255) rfl rfl (any_of HT_.out u8_) (fun _ _ _ h => h) (Or.inl ⟨u30_, ?_⟩) ?_ ?_; rotate_left
              ·exact u5_
              rotate_left
              ·exact u0_
              refine take_ (i := 8) (N := some 102) (v := ?_) (a' := ?_) (bm_ 29 511) rfl rfl (take_ofW HT_.out HW_.out u8_) (fun _ _ _ h => h) (Or.inl ⟨u30_, ?_⟩) hHeld ?_ ?_; rotate_left
              ·exact u17_
              rotate_left
              ·exact u0_
              refine pure_ (i := 9) (N := some 103) (v := ?_) (a' := ?_) (bm_ 29 1023) rfl rfl (any_of HT_.out u8_) (fun _ _ _ h => h) (Or.inl ⟨u30_, ?_⟩) ?_ ?_; rotate_left
              ·exact u5_
              rotate_left
              ·exact u0_
              refine pure_ (i := 10) (N := some 104) (v := ?_) (a' := ?_) (bm_ 29 2047) rfl rfl (any_of HT_.out u8_) (fun _ _ _ h => h) (Or.inl ⟨u30_, ?_⟩) ?_ ?_; rotate_left
              ·exact u5_
              rotate_left
              ·exact u0_
              refine pure_ (i := 11) (N := some 105) (v := ?_) (a' := ?_) (bm_ 29 4095) rfl rfl (any_of HT_.out u8_) (fun _ _ _ h => h) (Or.inl ⟨u30_, ?_⟩) ?_ ?_; rotate_left
              ·exact u5_
              rotate_left
              ·exact u0_
              refine pure_ (i := 12) (N := some 106) (v := ?_) (a' := ?_) (bm_ 29 8191) rfl rfl (any_of HT_.out u8_) (fun _ _ _ h => h) (Or.inl ⟨u30_, ?_⟩) ?_ ?_; rotate_left
              ·exact u5_
              rotate_left
              ·exact u0_
              refine pure_ (i := 13) (N := some 107) (v := undef) (a' := ?_) (bm_ 29 16383) rfl rfl (any_of HT_.out u8_) (fun _ _ _ h => h) (Or.inr ⟨u30_, rfl⟩) ?_ ?_; rotate_left
              ·exact u0_
              refine pure_ (i := 14) (N := some 108) (v := undef) (a' := ?_) (bm_ 29 32767) rfl rfl (any_of HT_.out u8_) (fun _ _ _ h => h) (Or.inr ⟨u30_, rfl⟩) ?_ ?_; rotate_left
              ·exact u0_
              refine pure_ (i := 15) (N := some 109) (v := undef) (a' := ?_) (bm_ 29 65535) rfl rfl (any_of HT_.out u8_) (fun _ _ _ h => h) (Or.inr ⟨u30_, rfl⟩) ?_ ?_; rotate_left
              ·exact u0_
              refine pure_ (i := 16) (N := some 110) (v := undef) (a' := ?_) (bm_ 29 131071) rfl rfl (any_of HT_.out u8_) (fun _ _ _ h => h) (Or.inr ⟨u30_, rfl⟩) ?_ ?_; rotate_left
              ·exact u0_
              refine pure_ (i := 17) (N := some 111) (v := undef) (a' := ?_) (bm_ 29 262143) rfl rfl (any_of HT_.out u8_) (fun _ _ _ h => h) (Or.inr ⟨u30_, rfl⟩) ?_ ?_; rotate_left
              ·exact u0_
              refine pure_ (i := 18) (N := some 112) (v := undef) (a' := ?_) (bm_ 29 524287) rfl rfl (any_of HT_.out u8_) (fun _ _ _ h => h) (Or.inr ⟨u30_, rfl⟩) ?_ ?_; rotate_left
              ·exact u0_
              refine pure_ (i := 19) (N := some 113) (v := ?_) (a' := ?_) (bm_ 29 1048575) rfl rfl (any_of HT_.out u8_) (fun _ _ _ h => h) (Or.inl ⟨u30_, ?_⟩) ?_ ?_; rotate_left
              ·exact u5_
              rotate_left
              ·exact u0_
              refine pure_ (i := 20) (N := some 114) (v := ?_) (a' := ?_) (bm_ 29 2097151) rfl rfl (any_of HT_.out u8_) (fun _ _ _ h => h) (Or.inl ⟨u30_, ?_⟩) ?_ ?_; rotate_left
              ·exact u5_
              rotate_left
              ·exact u0_
              refine pure_ (i := 21) (N := some 115) (v := undef) (a' := ?_) (bm_ 29 4194303) rfl rfl (any_of HT_.out u8_) (fun _ _ _ h => h) (Or.inr ⟨u30_, rfl⟩) ?_ ?_; rotate_left
              ·exact u0_
              refine pure_ (i := 22) (N := some 116) (v := undef) (a' := ?_) (bm_ 29 8388607) rfl rfl (any_of HT_.out u8_) (fun _ _ _ h => h) (Or.inr ⟨u30_, rfl⟩) ?_ ?_; rotate_left
              ·exact u0_
              refine pure_ (i := 23) (N := some 117) (v := ?_) (a' := ?_) (bm_ 29 16777215) rfl rfl (any_of HT_.out u8_) (fun _ _ _ h => h) (Or.inl ⟨u30_, ?_⟩) ?_ ?_; rotate_left
              ·exact u5_
              rotate_left
              ·exact u0_
              refine pure_ (i := 24) (N := some 118) (v := ?_) (a' := ?_) (bm_ 29 33554431) rfl rfl (any_of HT_.out u8_) (fun _ _ _ h => h) (Or.inl ⟨u30_, ?_⟩) ?_ ?_; rotate_left
              ·exact u5_
              rotate_left
              ·exact u0_
              refine pure_ (i := 25) (N := some 119) (v := undef) (a' := ?_) (bm_ 29 67108863) rfl rfl (any_of HT_.out u8_) (fun _ _ _ h => h) (Or.inr ⟨u30_, rfl⟩) ?_ ?_; rotate_left
              ·exact u0_
              refine pure_ (i := 26) (N := some 120) (v := undef) (a' := ?_) (bm_ 29 134217727) rfl rfl (any_of HT_.out u8_) (fun _ _ _ h => h) (Or.inr ⟨u30_, rfl⟩) ?_ ?_; rotate_left
              ·exact u0_
              refine pure_ (i := 27) (N := some 121) (v := ?_) (a' := ?_) (bm_ 29 268435455) rfl rfl (any_of HT_.out u8_) (fun _ _ _ h => h) (Or.inl ⟨u30_, ?_⟩) ?_ ?_; rotate_left
              ·exact u5_
              rotate_left
              ·exact u0_
              refine pure_ (i := 28) (N := some 4) (v := ?_) (a' := ?_) (bm_ 29 536870911) rfl rfl (any_of HT_.out u8_) (fun _ _ _ h => h) (Or.inl ⟨u30_, ?_⟩) ?_ ?_; rotate_left
              ·exact u5_
              rotate_left
              ·exact u0_
              refine done_ (done_of HT_.out u8_) ?_; try go_wp2
              go_ret
              exact ⟨u2_, u3_⟩
            ·replace c60 := Bool.eq_false_iff.mpr c60; subst c60; rw [if_neg (show ¬ (false = true) by decide)] at H; obtain rfl := Option.some.inj H; try go_wp2
             replace BK195 := am_ (blk_drew BK195.out); replace HB := am_ (below_drew1 HB.out); refine start_ (n := 29) (S := fun w' => w'.cell? ⟨gb195, 0, none⟩ = some (.int .i64 a0_0) ∧ w'.cell? ⟨gb195, 1, none⟩ = some (.string a0_1) ∧ w'.cell? ⟨gb195, 2, none⟩ = some (.string a0_2) ∧ w'.cell? ⟨gb195, 3, none⟩ = some (.int .i64 a0_3) ∧ w'.cell? ⟨gb195, 4, none⟩ = some (.int .i64 a0_4) ∧ w'.cell? ⟨gb195, 5, none⟩ = some (.slice A0_5 l0_5.length c0_5)) (ds := []) (bm_ 29 0) u8_ rfl rfl ⟨(blk_cell BK195.out 0).trans rfl, (blk_cell BK195.out 1).trans rfl, (blk_cell BK195.out 2).trans rfl, (blk_cell BK195.out 3).trans rfl, (blk_cell BK195.out 4).trans rfl, (blk_cell BK195.out 5).trans rfl⟩ (fun hHeld => ?_); refine with_tabW impl_Query_ok.tab14 impl_Query_ok.bits14 (fun HT_ HW_ => ?_); generalize wc.drew = w72 at BK195 HB hHeld ⊢; refine pure_ (i := 0) (N := some 94) (v := ?_) (a' := ?_) (bm_ 29 1) rfl rfl (any_of HT_.out u8_) (fun _ _ _ h => h) (Or.inl ⟨u30_, ?_⟩) ?_ ?_; rotate_left
             ·exact u5_
             rotate_left
             ·exact u0_
             refine pure_ (i := 1) (N := some 95) (v := ?_) (a' := ?_) (bm_ 29 3) rfl rfl (any_of HT_.out u8_) (fun _ _ _ h => h) (Or.inl ⟨u30_, ?_⟩) ?_ ?_; rotate_left
             ·exact u5_
             rotate_left
             ·exact u0_
             refine pure_ (i := 2) (N := some 96) (v := ?_) (a' := ?_) (bm_ 29 7) rfl rfl (any_of HT_.out u8_) (fun _ _ _ h => h) (Or.inl ⟨u30_, ?_⟩) ?_ ?_; rotate_left
             ·exact u5_
             rotate_left
             ·exact u0_
             refine take_ (i := 3) (N := some 97) (v := ?_) (a' := ?_) (bm_ 29 15) rfl rfl (take_ofW HT_.out HW_.out u8_) (fun _ _ _ h => h) (Or.inl ⟨u30_, ?_⟩) hHeld ?_ ?_; rotate_left
             ·exact u17_
             rotate_left
             ·exact u0_
             refine one_ (i := 4) (N := some 98) (bm_ 29 31) rfl rfl (one_of HT_.out u8_) u73_ (fun K hK => ?_); refine goes_ Tryd.func19 u8_ rfl #[.string a0_2] u30_ rfl rfl u4_ ?_; with_reducible refine (impl_isWord.calls kj9 a0_2 false _ A59.out).mono ?_
             rintro e w' ⟨rfl, ⟨nd, rfl⟩⟩; refine ⟨_, rfl, ?_⟩; refine hK.out _ _ ⟨(blk_cell BK195.out 0).trans rfl, (blk_cell BK195.out 1).trans rfl, (blk_cell BK195.out 2).trans rfl, (blk_cell BK195.out 3).trans rfl, (blk_cell BK195.out 4).trans rfl, (blk_cell BK195.out 5).trans rfl⟩ (fun hHeld => ?_); clear hK K; refine norm_ (a' := ?_) ?_ ?_; rotate_left
             ·show Act.put _ (some 98) _ = _
              simp only [Act.put, List.setIfInBounds_toArray, List.set_cons_zero, List.set_cons_succ, i64_w, i32_w]; rfl
             refine pure_ (i := 5) (N := some 99) (v := ?_) (a' := ?_) (bm_ 29 63) rfl rfl (any_of HT_.out u8_) (fun _ _ _ h => h) (Or.inl ⟨u30_, ?_⟩) ?_ ?_; rotate_left
             ·exact u5_
             rotate_left
             ·exact u0_
             refine pure_ (i := 6) (N := some 100) (v := ?_) (a' := ?_) (bm_ 29 127) rfl rfl (any_of HT_.out u8_) (fun _ _ _ h => h) (Or.inl ⟨u30_, ?_⟩) ?_ ?_; rotate_left
             ·exact u5_
             rotate_left
             ·exact u0_
             refine pure_ (i := 7) (N := some 101) (v := undef) (a' := ?_) (bm_ 29 255) rfl rfl (any_of HT_.out u8_) (fun _ _ _ h => h) (Or.inr ⟨u30_, rfl⟩) ?_ ?_; rotate_left
             ·exact u0_
             refine pure_ (i := 8) (N := some 102) (v := undef) (a' := ?_) (bm_ 29 511) rfl rfl (any_of HT_.out u8_) (fun _ _ _ h => h) (Or.inr ⟨u30_, rfl⟩) ?_ ?_; rotate_left
             ·exact u0_
             refine pure_ (i := 9) (N := some 103) (v := undef) (a' := ?_) (bm_ 29 1023) rfl rfl (any_of HT_.out u8_) (fun _ _ _ h => h) (Or.inr ⟨u30_, rfl⟩) ?_ ?_; rotate_left
             ·exact u0_
             refine pure_ (i := 10) (N := some 104) (v := undef) (a' := ?_) (bm_ 29 2047) rfl rfl (any_of HT_.out u8_) (fun _ _ _ h => h) (Or.inr ⟨u30_, rfl⟩) ?_ ?_; rotate_left
             ·exact u0_
             refine pure_ (i := 11) (N := some 105) (v := ?_) (a' := ?_) (bm_ 29 4095) rfl rfl (any_of HT_.out u8_) (fun _ _ _ h => h) (Or.inl ⟨u30_, ?_⟩) ?_ ?_; rotate_left
             ·exact u5_
             rotate_left
             ·exact u0_
             refine pure_ (i := 12) (N := some 106) (v := ?_) (a' := ?_) (bm_ 29 8191) rfl rfl (any_of HT_.out u8_) (fun _ _ _ h => h) (Or.inl ⟨u30_, ?_⟩) ?_ ?_; rotate_left
             ·exact u5_
             rotate_left
             ·exact u0_
             refine pure_ (i := 13) (N := some 107) (v := undef) (a' := ?_) (bm_ 29 16383) rfl rfl (any_of HT_.out u8_) (fun _ _ _ h => h) (Or.inr ⟨u30_, rfl⟩) ?_ ?_; rotate_left
             ·exact u0_
             refine pure_ (i := 14) (N := some 108) (v := undef) (a' := ?_) (bm_ 29 32767) rfl rfl (any_of HT_.out u8_) (fun _ _ _ h => h) (Or.inr ⟨u30_, rfl⟩) ?_ ?_; rotate_left
             ·exact u0_
             refine pure_ (i := 15) (N := some 109) (v := undef) (a' := ?_) (bm_ 29 65535) rfl rfl (any_of HT_.out u8_) (fun _ _ _ h => h) (Or.inr ⟨u30_, rfl⟩) ?_ ?_; rotate_left
             ·exact u0_
             refine pure_ (i := 16) (N := some 110) (v := undef) (a' := ?_) (bm_ 29 131071) rfl rfl (any_of HT_.out u8_) (fun _ _ _ h => h) (Or.inr ⟨u30_, rfl⟩) ?_ ?_; rotate_left
             ·exact u0_
             refine pure_ (i := 17) (N := some 111) (v := undef) (a' := ?_) (bm_ 29 262143) rfl rfl (any_of HT_.out u8_) (fun _ _ _ h => h) (Or.inr ⟨u30_, rfl⟩) ?_ ?_; rotate_left
             ·exact u0_
             refine pure_ (i := 18) (N := some 112) (v := undef) (a' := ?_) (bm_ 29 524287) rfl rfl (any_of HT_.out u8_) (fun _ _ _ h => h) (Or.inr ⟨u30_, rfl⟩) ?_ ?_; rotate_left
             ·exact u0_
             refine pure_ (i := 19) (N := some 113) (v := ?_) (a' := ?_) (bm_ 29 1048575) rfl rfl (any_of HT_.out u8_) (fun _ _ _ h => h) (Or.inl ⟨u30_, ?_⟩) ?_ ?_; rotate_left
             ·exact u5_
             rotate_left
             ·exact u0_
             refine pure_ (i := 20) (N := some 114) (v := ?_) (a' := ?_) (bm_ 29 2097151) rfl rfl (any_of HT_.out u8_) (fun _ _ _ h => h) (Or.inl ⟨u30_, ?_⟩) ?_ ?_; rotate_left
             ·exact u5_
             rotate_left
             ·exact u0_
             refine pure_ (i := 21) (N := some 115) (v := undef) (a' := ?_) (bm_ 29 4194303) rfl rfl (any_of HT_.out u8_) (fun _ _ _ h => h) (Or.inr ⟨u30_, rfl⟩) ?_ ?_; rotate_left
             ·exact u0_
             refine pure_ (i := 22) (N := some 116) (v := undef) (a' := ?_) (bm_ 29 8388607) rfl rfl (any_of HT_.out u8_) (fun _ _ _ h => h) (Or.inr ⟨u30_, rfl⟩) ?_ ?_; rotate_left
             ·exact u0_
             refine pure_ (i := 23) (N := some 117) (v := ?_) (a' := ?_) (bm_ 29 16777215) rfl rfl (any_of HT_.out u8_) (fun _ _ _ h => h) (Or.inl ⟨u30_, ?_⟩) ?_ ?_; rotate_left
             ·exact u5_
             rotate_left
             ·exact u0_
             refine pure_ (i := 24) (N := some 118) (v := ?_) (a' := ?_) (bm_ 29 33554431) rfl rfl (any_of HT_.out u8_) (fun _ _ _ h => h) (Or.inl ⟨u30_, ?_⟩) ?_ ?_; rotate_left
             ·exact u5_
             rotate_left
             ·exact u0_
             refine pure_ (i := 25) (N := some 119) (v := undef) (a' := ?_) (bm_ 29 67108863) rfl rfl (any_of HT_.out u8_) (fun _ _ _ h => h) (Or.inr ⟨u30_, rfl⟩) ?_ ?_; rotate_left
             ·exact u0_
             refine pure_ (i := 26) (N := some 120) (v := undef) (a' := ?_) (bm_ 29 134217727) rfl rfl (any_of HT_.out u8_) (fun _ _ _ h => h) (Or.inr ⟨u30_, rfl⟩) ?_ ?_; rotate_left
             ·exact u0_
             refine pure_ (i := 27) (N := some 121) (v := ?_) (a' := ?_) (bm_ 29 268435455) rfl rfl (any_of HT_.out u8_) (fun _ _ _ h => h) (Or.inl ⟨u30_, ?_⟩) ?_ ?_; rotate_left
             ·exact u5_
             rotate_left
             ·exact u0_
             refine pure_ (i := 28) (N := some 4) (v := ?_) (a' := ?_) (bm_ 29 536870911) rfl rfl (any_of HT_.out u8_) (fun _ _ _ h => h) (Or.inl ⟨u30_, ?_⟩) ?_ ?_; rotate_left
             ·exact u5_
             rotate_left
             ·exact u0_
             refine done_ (done_of HT_.out u8_) ?_; try go_wp2
             go_ret
             exact ⟨u2_, u3_⟩
           ·replace c58 := Bool.eq_false_iff.mpr c58; subst c58; rw [if_neg (show ¬ (false = true) by decide)] at H; obtain rfl := Option.some.inj H; try go_wp2
            replace BK195 := am_ (blk_drew BK195.out); replace HB := am_ (below_drew1 HB.out); refine start_ (n := 29) (S := fun w' => True) (ds := []) (bm_ 29 0) u8_ rfl rfl trivial (fun hHeld => ?_); refine with_tabW impl_Query_ok.tab14 impl_Query_ok.bits14 (fun HT_ HW_ => ?_); generalize wc.drew = w73 at BK195 HB hHeld ⊢; refine pure_ (i := 0) (N := some 94) (v := ?_) (a' := ?_) (bm_ 29 1) rfl rfl (any_of HT_.out u8_) (fun _ _ _ h => h) (Or.inl ⟨u30_, ?_⟩) ?_ ?_; rotate_left
            ·exact u5_
            rotate_left
            ·exact u0_
            refine pure_ (i := 1) (N := some 95) (v := ?_) (a' := ?_) (bm_ 29 3) rfl rfl (any_of HT_.out u8_) (fun _ _ _ h => h) (Or.inl ⟨u30_, ?_⟩) ?_ ?_; rotate_left
            ·exact u5_
            rotate_left
            ·exact u0_
            refine pure_ (i := 2) (N := some 96) (v := undef) (a' := ?_) (bm_ 29 7) rfl rfl (any_of HT_.out u8_) (fun _ _ _ h => h) (Or.inr ⟨u30_, rfl⟩) ?_ ?_; rotate_left
            ·exact u0_
            refine pure_ (i := 3) (N := some 97) (v := undef) (a' := ?_) (bm_ 29 15) rfl rfl (any_of HT_.out u8_) (fun _ _ _ h => h) (Or.inr ⟨u30_, rfl⟩) ?_ ?_; rotate_left
            ·exact u0_
            refine pure_ (i := 4) (N := some 98) (v := undef) (a' := ?_) (bm_ 29 31) rfl rfl (any_of HT_.out u8_) (fun _ _ _ h => h) (Or.inr ⟨u30_, rfl⟩) ?_ ?_; rotate_left
            ·exact u0_
            refine pure_ (i := 5) (N := some 99) (v := ?_) (a' := ?_) (bm_ 29 63) rfl rfl (any_of HT_.out u8_) (fun _ _ _ h => h) (Or.inl ⟨u30_, ?_⟩) ?_ ?_; rotate_left
            ·exact u5_
            rotate_left
            ·exact u0_
            refine pure_ (i := 6) (N := some 100) (v := ?_) (a' := ?_) (bm_ 29 127) rfl rfl (any_of HT_.out u8_) (fun _ _ _ h => h) (Or.inl ⟨u30_, ?_⟩) ?_ ?_; rotate_left
            ·exact u5_
            rotate_left
            ·exact u0_
            refine pure_ (i := 7) (N := some 101) (v := undef) (a' := ?_) (bm_ 29 255) rfl rfl (any_of HT_.out u8_) (fun _ _ _ h => h) (Or.inr ⟨u30_, rfl⟩) ?_ ?_; rotate_left
            ·exact u0_
            refine pure_ (i := 8) (N := some 102) (v := undef) (a' := ?_) (bm_ 29 511) rfl rfl (any_of HT_.out u8_) (fun _ _ _ h => h) (Or.inr ⟨u30_, rfl⟩) ?_ ?_; rotate_left
            ·exact u0_
            refine pure_ (i := 9) (N := some 103) (v := undef) (a' := ?_) (bm_ 29 1023) rfl rfl (any_of HT_.out u8_) (fun _ _ _ h => h) (Or.inr ⟨u30_, rfl⟩) ?_ ?_; rotate_left
            ·exact u0_
            refine pure_ (i := 10) (N := some 104) (v := undef) (a' := ?_) (bm_ 29 2047) rfl rfl (any_of HT_.out u8_) (fun _ _ _ h => h) (Or.inr ⟨u30_, rfl⟩) ?_ ?_; rotate_left
            ·exact u0_
            refine pure_ (i := 11) (N := some 105) (v := ?_) (a' := ?_) (bm_ 29 4095) rfl rfl (any_of HT_.out u8_) (fun _ _ _ h => h) (Or.inl ⟨u30_, ?_⟩) ?_ ?_; rotate_left
            ·exact u5_
            rotate_left
            ·exact u0_
            refine pure_ (i := 12) (N := some 106) (v := ?_) (a' := ?_) (bm_ 29 8191) rfl rfl (any_of HT_.out u8_) (fun _ _ _ h => h) (Or.inl ⟨u30_, ?_⟩) ?_ ?_; rotate_left
            ·exact u5_
            rotate_left
            ·exact u0_
            refine pure_ (i := 13) (N := some 107) (v := undef) (a' := ?_) (bm_ 29 16383) rfl rfl (any_of HT_.out u8_) (fun _ _ _ h => h) (Or.inr ⟨u30_, rfl⟩) ?_ ?_; rotate_left
            ·exact u0_
            refine pure_ (i := 14) (N := some 108) (v := undef) (a' := ?_) (bm_ 29 32767) rfl rfl (any_of HT_.out u8_) (fun _ _ _ h => h) (Or.inr ⟨u30_, rfl⟩) ?_ ?_; rotate_left
            ·exact u0_
            refine pure_ (i := 15) (N := some 109) (v := undef) (a' := ?_) (bm_ 29 65535) rfl rfl (any_of HT_.out u8_) (fun _ _ _ h => h) (Or.inr ⟨u30_, rfl⟩) ?_ ?_; rotate_left
            ·exact u0_
            refine pure_ (i := 16) (N := some 110) (v := undef) (a' := ?_) (bm_ 29 131071) rfl rfl (any_of HT_.out u8_) (fun _ _ _ h => h) (Or.inr ⟨u30_, rfl⟩) ?_ ?_; rotate_left
            ·exact u0_
            refine pure_ (i := 17) (N := some 111) (v := undef) (a' := ?_) (bm_ 29 262143) rfl rfl (any_of HT_.out u8_) (fun _ _ _ h => h) (Or.inr ⟨u30_, rfl⟩) ?_ ?_; rotate_left
            ·exact u0_
            refine pure_ (i := 18) (N := some 112) (v := undef) (a' := ?_) (bm_ 29 524287) rfl rfl (any_of HT_.out u8_) (fun _ _ _ h => h) (Or.inr ⟨u30_, rfl⟩) ?_ ?_; rotate_left
            ·exact u0_
            refine pure_ (i := 19) (N := some 113) (v := ?_) (a' := ?_) (bm_ 29 1048575) rfl rfl (any_of HT_.out u8_) (fun _ _ _ h => h) (Or.inl ⟨u30_, ?_⟩) ?_ ?_; rotate_left
            ·exact u5_
            rotate_left
            ·exact u0_
            refine pure_ (i := 20) (N := some 114) (v := ?_) (a' := ?_) (bm_ 29 2097151) rfl rfl (any_of HT_.out u8_) (fun _ _ _ h => h) (Or.inl ⟨u30_, ?_⟩) ?_ ?_; rotate_left
            ·exact u5_
            rotate_left
            ·exact u0_
            refine pure_ (i := 21) (N := some 115) (v := undef) (a' := ?_) (bm_ 29 4194303) rfl rfl (any_of HT_.out u8_) (fun _ _ _ h => h) (Or.inr ⟨u30_, rfl⟩) ?_ ?_; rotate_left
            ·exact u0_
            refine pure_ (i := 22) (N := some 116) (v := undef) (a' := ?_) (bm_ 29 8388607) rfl rfl (any_of HT_.out u8_) (fun _ _ _ h => h) (Or.inr ⟨u30_, rfl⟩) ?_ ?_; rotate_left
            ·exact u0_
            refine pure_ (i := 23) (N := some 117) (v := ?_) (a' := ?_) (bm_ 29 16777215) rfl rfl (any_of HT_.out u8_) (fun _ _ _ h => h) (Or.inl ⟨u30_, ?_⟩) ?_ ?_; rotate_left
            ·exact u5_
            rotate_left
            ·exact u0_
            refine pure_ (i := 24) (N := some 118) (v := ?_) (a' := ?_) (bm_ 29 33554431) rfl rfl (any_of HT_.out u8_) (fun _ _ _ h => h) (Or.inl ⟨u30_, ?_⟩) ?_ ?_; rotate_left
            ·exact u5_
            rotate_left
            ·exact u0_
            refine pure_ (i := 25) (N := some 119) (v := undef) (a' := ?_) (bm_ 29 67108863) rfl rfl (any_of HT_.out u8_) (fun _ _ _ h => h) (Or.inr ⟨u30_, rfl⟩) ?_ ?_; rotate_left
            ·exact u0_
            refine pure_ (i := 26) (N := some 120) (v := undef) (a' := ?_) (bm_ 29 134217727) rfl rfl (any_of HT_.out u8_) (fun _ _ _ h => h) (Or.inr ⟨u30_, rfl⟩) ?_ ?_; rotate_left
            ·exact u0_
            refine pure_ (i := 27) (N := some 121) (v := ?_) (a' := ?_) (bm_ 29 268435455) rfl rfl (any_of HT_.out u8_) (fun _ _ _ h => h) (Or.inl ⟨u30_, ?_⟩) ?_ ?_; rotate_left
            ·exact u5_
            rotate_left
            ·exact u0_
            refine pure_ (i := 28) (N := some 4) (v := ?_) (a' := ?_) (bm_ 29 536870911) rfl rfl (any_of HT_.out u8_) (fun _ _ _ h => h) (Or.inl ⟨u30_, ?_⟩) ?_ ?_; rotate_left
            ·exact u5_
            rotate_left
            ·exact u0_
            refine done_ (done_of HT_.out u8_) ?_; try go_wp2
            go_ret
            exact ⟨u2_, u3_⟩
          ·exact absurd hV.out (by have := beq_eq_false_iff_ne.1 c17b0; have := beq_eq_false_iff_ne.1 c25b0; have := beq_eq_false_iff_ne.1 c46b0; omega)
      case rest =>
       exact hcut.elim
end Go.Proofs.YthlabmfecmdlcaaDoor.PFnExactQueryOk
