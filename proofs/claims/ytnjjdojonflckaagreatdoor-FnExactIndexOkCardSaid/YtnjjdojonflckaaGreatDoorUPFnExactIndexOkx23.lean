/- Contracts of Go functions, each told as a plain Lean function. -/
import Derived.Test.YtnjjdojonflckaaGreatDoorUPFnExactIndexOkx19
namespace Go.Proofs.YtnjjdojonflckaaGreatDoor.PFnExactIndexOk
open Go.RowKit Go.Proofs.YtnjjdojonflckaaGreatDoorW.PrintWords Go.Proofs.YtnjjdojonflckaaGreatDoorW.PrintLast Go.Proofs.YtnjjdojonflckaaGreatDoorW.PrintMore
attribute [local go_sem] bH bF cm cn cK cI b5 b4 ck cl
set_option linter.unusedVariables false
set_option linter.unusedSimpArgs false
set_option maxHeartbeats 8000000
set_option maxRecDepth 100000
mutual
def al.j0 : Nat → Bool → List (S92) → List (S46) → List (S76) → Int → Option (Bool)
 | 0, _, _, _, _, _ => none
 | k + 1, x20, x482000, x482001, x482002, x482003 => if x20 = true then (some false) else (al.l0 k x482001 (x482001.length : Int) 0 x482000 x482001 x482002 x482003)
def al.l0 : Nat → List (S46) → Int → Int → List (S92) → List (S46) → List (S76) → Int → Option (Bool)
 | 0, _, _, _, _, _, _, _ => none
 | k + 1, x22, x23, x24, x482000, x482001, x482002, x482003 => if x24 < x23 then (if 0 ≤ x24 then (if x24 < (x22.length : Int) then ((bc.f ((ab x22 x24).f0) 0 (wrap64 (x482003 - 1))).bind fun t490 => (if t490 = true then (if x24 > 0 then (if 0 ≤ (wrap64 (x24 - 1)) then (if (wrap64 (x24 - 1)) < (x482001.length : Int) then (if ((ab x482001 (wrap64 (x24 - 1))).f0) ≥ ((ab x22 x24).f0) then (some false) else ((aI.f k x482000 ((ab x22 x24).f1.f0) ((ab x22 x24).f1.f1)).bind fun t492 => (if t492 = true then ((cW.f x482000 x482001 x482002 x482003 ((ab x22 x24).f1.f0)).bind fun t493 => (if t493 = x24 then (al.l0 k x22 x23 (wrap64 (x24 + 1)) x482000 x482001 x482002 x482003) else (some false))) else (some false)))) else (none)) else (none)) else ((aI.f k x482000 ((ab x22 x24).f1.f0) ((ab x22 x24).f1.f1)).bind fun t494 => (if t494 = true then ((cW.f x482000 x482001 x482002 x482003 ((ab x22 x24).f1.f0)).bind fun t495 => (if t495 = x24 then (al.l0 k x22 x23 (wrap64 (x24 + 1)) x482000 x482001 x482002 x482003) else (some false))) else (some false)))) else (some false))) else (none)) else (none)) else ((cJ.f k x482000 x482001).bind fun t484 => ((bS.f k x482002 t484).bind fun t487 => (some t487)))
end
def al.f (k : Nat) (l0_0 : List (S92)) (l0_1 : List (S46)) (l0_2 : List (S76)) (a0_3 : Int) : Option (Bool) := (az.f k l0_0).bind fun t482 => (if t482 = true then (if (l0_1.length : Int) > 8 then (al.j0 k true l0_0 l0_1 l0_2 a0_3) else ((bc.f a0_3 0 999999999).bind fun t483 => (al.j0 k (!t483) l0_0 l0_1 l0_2 a0_3))) else (al.j0 k true l0_0 l0_1 l0_2 a0_3))
theorem al.mono_l : ∀ k, M5 al.j0 k ∧ M7 al.l0 k
 | 0 => ⟨⟨cU⟩, ⟨cU⟩⟩
 | k + 1 => by obtain ⟨_, _⟩ := al.mono_l k; exact ⟨⟨by intros; unfold al.j0; exact mo_⟩, ⟨by intros; unfold al.l0; exact mo_⟩⟩
instance al.mono (k : Nat) : M4 al.f k := ⟨by obtain ⟨_, _⟩ := al.mono_l k; intros; unfold al.f; exact mo_⟩
def al.T6 : Bool × List (List Nat × List Nat) := (true, [([], []), ([0], [0]), ([], []), ([2], [2]), ([3], [3]), ([1, 4], [1, 4]), ([5], [5]), ([6, 5], [6]), ([7], [7]), ([8, 7], [7, 8]), ([9, 7, 7], [7, 9]), ([10], [10]), ([11, 10], [10, 11]), ([10], [10]), ([13, 10], [10, 13]), ([12, 14, 10], [10, 12, 14]), ([15, 10], [10, 15]), ([16, 10], [10, 16]), ([10], [10]), ([18, 10], [10, 18]), ([17, 19, 10], [10, 17, 19]), ([10, 20, 7], [7, 10, 20]), ([7, 21], [7, 21]), ([22, 10], [22]), ([23], [23]), ([24, 23], [23, 24]), ([23], [23]), ([26, 23], [23, 26]), ([25, 27, 23, 23], [23, 25, 27]), ([28, 23], [23, 28]), ([23, 29], [23, 29]), ([30, 28], [30]), ([31], [31]), ([31], [31]), ([33, 31], [31, 33]), ([34, 31], [31, 34]), ([32, 35, 31, 31], [31, 32, 35]), ([31], [31]), ([36, 37, 31], [31, 36, 37]), ([31, 38], [31, 38])])
def al.B6 : List Nat := [0, 1, 0, 4, 12, 31, 63, 127, 255, 511, 1023, 2047, 4095, 2047, 10239, 32767, 65535, 131071, 2047, 264191, 1048575, 2097151, 4194303, 8388607, 16777215, 33554431, 16777215, 83886079, 268435455, 536870911, 1073741823, 2147483647, 4294967295, 4294967295, 12884901887, 30064771071, 68719476735, 4294967295, 274877906943, 549755813887]
theorem al.tab6 : dM .any (fS Tryz.f25 6) = al.T6 := by kernel_rfl
theorem al.bits6 : dt al.T6.2 al.B6 = true := by kernel_rfl
def al.T9 : Bool × List (List Nat × List Nat) := (true, [([], []), ([0], [0]), ([], []), ([2], [2]), ([], []), ([4], [4]), ([3, 5], [3, 5]), ([1, 6, 6], [1, 6]), ([7, 7, 0, 1, 2, 3, 4, 5, 6, 7], [7])])
def al.B9 : List Nat := [0, 1, 0, 4, 0, 16, 60, 127, 255]
theorem al.tab9 : dM .any (fS Tryz.f25 9) = al.T9 := by kernel_rfl
theorem al.bits9 : dt al.T9.2 al.B9 = true := by kernel_rfl
theorem al.calls (k : Nat) (A0_0 : Option Addr) (c0_0 : Nat) (l0_0 : List (S92)) (A0_1 : Option Addr) (c0_1 : Nat) (l0_1 : List (S46)) (A0_2 : Option Addr) (c0_2 : Nat) (l0_2 : List (S76)) (a0_3 : Int) (r : Bool) (w : World) (hG : StopsIn w) (hr0_0 : Kd.C k92 w A0_0 l0_0.length l0_0) (hc0_0 : l0_0.length ≤ c0_0) (hr0_1 : Kd.C k46 w A0_1 l0_1.length l0_1) (hc0_1 : l0_1.length ≤ c0_1) (hr0_2 : Kd.C k76 w A0_2 l0_2.length l0_2) (hc0_2 : l0_2.length ≤ c0_2) (h : al.f k l0_0 l0_1 l0_2 a0_3 = some r) :
  Calls Tryz.prog 25 #[.agg #[.slice A0_0 l0_0.length c0_0, .slice A0_1 l0_1.length c0_1, .slice A0_2 l0_2.length c0_2, .int .i64 a0_3]] w fun e w' => e = .returned (.bool r) ∧ Below w.heap.size w w' := by
 have hu27 := Tryz.underlying27; have hu46 := Tryz.underlying46; have hu44 := Tryz.underlying44; have HG_ := am_ hG; clear hG; have HR0_0 := am_ hr0_0; have HC0_0 := am_ hc0_0; clear hr0_0 hc0_0; have HR0_1 := am_ hr0_1; have HC0_1 := am_ hc0_1; clear hr0_1 hc0_1; have HR0_2 := am_ hr0_2; have HC0_2 := am_ hc0_2; clear hr0_2 hc0_2; have HB := am_ (Below.refl w.heap.size w); have H := h; clear h; unfold al.f at H
 have HC2 := am_ H; clear H; go_enter Tryz.func25, Tryz.ntmps25
 go_upto_region 1 with (first | ((with_reducible refine aX (N := 1) rfl ?_); (try (refine bh cO ?_; dsimp only)); refine bB ?hg (N := 1) ?hd (cs := #[.slice A0_0 l0_0.length c0_0, .slice A0_1 l0_1.length c0_1, .slice A0_2 l0_2.length c0_2, .int .i64 a0_3]) (t := 27) ?hr ?_; (case hd => rfl); (case hg => rfl); (case hr => exact cx); intro gb481 hg w3 hbox hb; have BK481 := am_ (hbox); have GE481 := gw_ HB hg; replace HB := bs_ HB hb; clear hb hbox hg))
 (try simp only [Act.put, List.setIfInBounds_toArray, List.set_cons_zero, List.set_cons_succ])
 go_cut [20] (fun v20 wc => ∃ (kq : Nat) (x20_1 : Bool), v20 = .bool x20_1 ∧ aa (al.j0 kq x20_1 l0_0 l0_1 l0_2 a0_3 = some r) ∧ aa (kq ≤ k) ∧ aa (wc.heap[gb481]? = some (.cells #[(.slice A0_0 l0_0.length c0_0), (.slice A0_1 l0_1.length c0_1), (.slice A0_2 l0_2.length c0_2), .int .i64 a0_3] 27 (0, 0))) ∧ aa (Below w.heap.size w wc))
 case first =>
  have H := HC2.out; clear HC2; obtain ⟨t482, A4, H⟩ := bi_ H; cases t482
  ·replace H := hf_ H; have H' := am_ H; clear H; obtain ⟨hcz14_0, hcz14_1, hcz14_2, hcz14_3, hfz14_0, hfz14_1, hfz14_2, hfz14_3⟩ := cF BK481.out; go_wp2_with (first | ((with_reducible refine gt_ 7 ?_); refine gB_ 7 Tryz.func63 (az.calls k _ _ l0_0 false _ (kc_ HR0_0 HB) HC0_0.out A4.out) ?_; intro w15 hb; replace BK481 := bb_ BK481 hb; replace HB := bs_ HB hb; (try clear hb)))
   go_meet
   case rel => exact ⟨_, (true), u1_, H', ⟨jH⟩, ⟨u42_⟩, ⟨bw_ HB⟩⟩
  ·replace H := ht_ H; by_cases c6 : (l0_1.length : Int) > 8
   ·rw [if_pos c6] at H; have c6b0 : decide (8 < (l0_1.length : Int)) = true := decide_eq_true c6; have c6b1 : decide (8 < l0_1.length) = true := decide_eq_true aA; clear c6; (first | rw [c6b0] | (simp only [cP, dz]; rw [c6b0]) | skip)
    have H' := am_ H; clear H; obtain ⟨hcz7_0, hcz7_1, hcz7_2, hcz7_3, hfz7_0, hfz7_1, hfz7_2, hfz7_3⟩ := cF BK481.out; go_wp2_with (first | ((with_reducible refine gt_ 7 ?_); refine gB_ 7 Tryz.func63 (az.calls k _ _ l0_0 true _ (kc_ HR0_0 HB) HC0_0.out A4.out) ?_; intro w8 hb; replace BK481 := bb_ BK481 hb; replace HB := bs_ HB hb; (try clear hb); obtain ⟨hcz9_0, hcz9_1, hcz9_2, hcz9_3, hfz9_0, hfz9_1, hfz9_2, hfz9_3⟩ := cF BK481.out))
    go_meet
    case rel => exact ⟨_, (true), u1_, H', ⟨jH⟩, ⟨u42_⟩, ⟨bw_ HB⟩⟩
   ·rw [if_neg c6] at H; have c6b0 : decide (8 < (l0_1.length : Int)) = false := decide_eq_false c6; have c6b1 : decide (8 < l0_1.length) = false := decide_eq_false aA; clear c6; (first | rw [c6b0] | (simp only [cP, dz]; rw [c6b0]) | skip)
    obtain ⟨t483, A10, H⟩ := bi_ H; have H' := am_ H; clear H; obtain ⟨hcz11_0, hcz11_1, hcz11_2, hcz11_3, hfz11_0, hfz11_1, hfz11_2, hfz11_3⟩ := cF BK481.out; go_wp2_with (first | ((with_reducible refine gt_ 7 ?_); refine gB_ 7 Tryz.func63 (az.calls k _ _ l0_0 true _ (kc_ HR0_0 HB) HC0_0.out A4.out) ?_; intro w12 hb; replace BK481 := bb_ BK481 hb; replace HB := bs_ HB hb; (try clear hb); obtain ⟨hcz13_0, hcz13_1, hcz13_2, hcz13_3, hfz13_0, hfz13_1, hfz13_2, hfz13_3⟩ := cF BK481.out) | (go_at_call 64; (with_reducible refine (bc.calls a0_3 0 999999999 t483 _ A10.out).mono ?_); rintro e w' ⟨rfl, ⟨nd, rfl⟩⟩))
    go_meet
    case rel => exact ⟨_, (!t483), u1_, H', ⟨jH⟩, ⟨u42_⟩, ⟨bw_ HB⟩⟩
 case rest =>
  clear HC2; obtain ⟨kq, x20_1, rfl, HA, HJ1, BK481, HB⟩ := hcut; cases kq with
  | zero => exact absurd HA.out (by simp [al.j0])
  | succ kj1 =>
   have H := HA.out; clear HA; simp only [al.j0] at H; cases x20_1
   ·replace H := hf_ H; have H' := am_ H; clear H; obtain ⟨hcz17_0, hcz17_1, hcz17_2, hcz17_3, hfz17_0, hfz17_1, hfz17_2, hfz17_3⟩ := cF BK481.out; go_wp2; go_loopg [24] kj1 (fun kq v24 w' => ∃ (x24_2 : Int), v24 = .int .i64 x24_2 ∧ aa (al.l0 kq l0_1 (l0_1.length : Int) x24_2 l0_0 l0_1 l0_2 a0_3 = some r) ∧ aa (kq ≤ kj1) ∧ aa (w'.heap[gb481]? = some (.cells #[(.slice A0_0 l0_0.length c0_0), (.slice A0_1 l0_1.length c0_1), (.slice A0_2 l0_2.length c0_2), .int .i64 a0_3] 27 (0, 0))) ∧ aa (Below w.heap.size w w'))
    case atStart => exact ⟨(0), u1_, H', ⟨Nat.le_refl _⟩, ⟨u42_⟩, ⟨bw_ HB⟩⟩
    case round =>
     clear H'; try clear hcz17_0
     try clear hcz17_1
     try clear hcz17_2
     try clear hcz17_3
     try clear hfz17_0
     try clear hfz17_1
     try clear hfz17_2
     try clear hfz17_3
     obtain ⟨x24_2, rfl, HA, HK2, BK481, HB⟩ := hrel; cases gk with
     | zero => exact absurd HA.out (by simp [al.l0])
     | succ k2 =>
      have H := HA.out; clear HA; simp only [al.l0] at H; by_cases c18 : x24_2 < (l0_1.length : Int)
      ·rw [if_pos c18] at H; have c18b0 := decide_eq_true c18; clear c18; obtain ⟨c19b0, H⟩ := gd_ H; obtain ⟨c20b0, H⟩ := gd_ H; obtain ⟨t490, A21, H⟩ := bi_ H; cases t490
       ·replace H := hf_ H; obtain rfl := si_ H; obtain ⟨ad488, A488_2, c488_2, e488, hx488_0, hx488_1, hx488_2, hl488_2, hi488_2⟩ := dG HR0_1.out x24_2 od_ od_; cases e488; replace hx488_0 := cb_ HB hx488_0; replace hx488_1 := cb_ HB hx488_1; replace hx488_2 := cb_ HB hx488_2; have HR488_2 := am_ hi488_2; have HC488_2 := am_ hl488_2; clear hi488_2 hl488_2; obtain ⟨p488, q488⟩ := pt_ x24_2 l0_1.length; try go_wp2_with (first | ((with_reducible refine aX (N := 4) rfl ?_); (try (refine bh cO ?_; dsimp only)); refine bB ?hg (N := 4) ?hd (cs := #[.int .i64 0, .string (⟨#[]⟩ : ByteArray), .slice none 0 0]) (t := 46) ?hr ?_; (case hd => rfl); (case hg => rfl); (case hr => exact cx); intro gb489 hg w81 hbox hb; have BK489 := am_ (hbox); have GE489 := gw_ HB hg; replace HB := bs_ HB hb; have NB481_489 := nl_ BK481 hg; have NB489_481 := ng_ BK481 hg; replace BK481 := bb_ BK481 hb; clear hb hbox hg; have hnb82 := NB489_481.out; have hnc82 := NB481_489.out; obtain ⟨hcz83_0, hcz83_1, hcz83_2, hfz83_0, hfz83_1, hfz83_2⟩ := bX BK489.out))
        have n0_ : aa ((((w81.setCell ⟨gb489, 0, none⟩ (.int .i64 ((ab l0_1 x24_2).f0))).setCell ⟨gb489, 1, none⟩ (.string ((ab l0_1 x24_2).f1.f0))).setCell ⟨gb489, 2, none⟩ (.slice A488_2 ((ab l0_1 x24_2).f1.f1).length c488_2)).heap[gb481]? = some (.cells #[.slice A0_0 l0_0.length c0_0, .slice (some ad488) l0_1.length c0_1, .slice A0_2 l0_2.length c0_2, .int .i64 a0_3] 27 (0, 0))) := ⟨u12_⟩; have n1_ : aa ((((w81.setCell ⟨gb489, 0, none⟩ (.int .i64 ((ab l0_1 x24_2).f0))).setCell ⟨gb489, 1, none⟩ (.string ((ab l0_1 x24_2).f1.f0))).setCell ⟨gb489, 2, none⟩ (.slice A488_2 ((ab l0_1 x24_2).f1.f1).length c488_2)).heap[gb489]? = some (.cells #[.int .i64 ((ab l0_1 x24_2).f0), .string ((ab l0_1 x24_2).f1.f0), .slice A488_2 ((ab l0_1 x24_2).f1.f1).length c488_2] 46 (0, 0))) := ⟨u7_⟩; have n2_ : aa (Below w.heap.size w (((w81.setCell ⟨gb489, 0, none⟩ (.int .i64 ((ab l0_1 x24_2).f0))).setCell ⟨gb489, 1, none⟩ (.string ((ab l0_1 x24_2).f1.f0))).setCell ⟨gb489, 2, none⟩ (.slice A488_2 ((ab l0_1 x24_2).f1.f1).length c488_2))) := ⟨bw_ HB⟩; (try clear BK481)
        (try clear BK489)
        (try clear HB)
        generalize (((w81.setCell ⟨gb489, 0, none⟩ (.int .i64 ((ab l0_1 x24_2).f0))).setCell ⟨gb489, 1, none⟩ (.string ((ab l0_1 x24_2).f1.f0))).setCell ⟨gb489, 2, none⟩ (.slice A488_2 ((ab l0_1 x24_2).f1.f1).length c488_2)) = w84 at n0_ n1_ n2_ ⊢; have BK481 := n0_; have BK489 := n1_; have HB := n2_; clear n0_ n1_ n2_; replace BK481 := am_ (ac BK481.out); replace BK489 := am_ (ac BK489.out); replace HB := am_ (bg HB.out); refine cT (n := 40) (S := fun w' => w'.cell? ⟨gb489, 0, none⟩ = some (.int .i64 ((ab l0_1 x24_2).f0)) ∧ w'.cell? ⟨gb489, 1, none⟩ = some (.string ((ab l0_1 x24_2).f1.f0)) ∧ w'.cell? ⟨gb489, 2, none⟩ = some (.slice A488_2 ((ab l0_1 x24_2).f1.f1).length c488_2) ∧ w'.cell? ⟨gb481, 0, none⟩ = some (.slice A0_0 l0_0.length c0_0) ∧ w'.cell? ⟨gb481, 1, none⟩ = some (.slice (some ad488) l0_1.length c0_1) ∧ w'.cell? ⟨gb481, 2, none⟩ = some (.slice A0_2 l0_2.length c0_2) ∧ w'.cell? ⟨gb481, 3, none⟩ = some (.int .i64 a0_3)) (ds := []) (bm_ 40 0) ch rfl rfl ⟨bc_ BK489 0, bc_ BK489 1, bc_ BK489 2, bc_ BK481 0, bc_ BK481 1, bc_ BK481 2, bc_ BK481 3⟩ (fun hHeld => ?_); refine bO al.tab6 al.bits6 (fun HT_ HW_ => ?_); generalize w84.drew = w85 at BK481 BK489 HB hHeld ⊢; refine pv_ 0 29 ?_; refine pv_ 2 31 ?_; refine tv_ 1 30 ?_; refine tv_ 3 32 ?_; refine pv_ 4 33 ?_; refine ov_ 5 34 (fun K hK => ?_); refine oD_ Tryz.func64 (bc.calls ((ab l0_1 x24_2).f0) 0 (wrap64 (a0_3 - 1)) false _ A21.out) ?_; intro nd; refine hK.out _ _ ⟨bc_ BK489 0, bc_ BK489 1, bc_ BK489 2, bc_ BK481 0, bc_ BK481 1, bc_ BK481 2, bc_ BK481 3⟩ (fun hHeld => ?_); clear hK K; refine nm_ ?_; refine pv_ 6 35 ?_; refine pv_ 7 36 ?_; refine sv_ 8 37 ?_; refine sv_ 9 38 ?_; refine sv_ 10 39 ?_; refine sv_ 11 40 ?_; refine sv_ 12 41 ?_; refine sv_ 13 42 ?_; refine sv_ 14 43 ?_; refine sv_ 15 44 ?_; refine sv_ 16 45 ?_; refine sv_ 17 46 ?_; refine sv_ 18 47 ?_; refine sv_ 19 48 ?_; refine sv_ 20 49 ?_; refine sv_ 21 50 ?_; refine pv_ 22 51 ?_; refine pv_ 23 52 ?_; refine sv_ 24 53 ?_; refine sv_ 25 54 ?_; refine sv_ 26 55 ?_; refine sv_ 27 56 ?_; refine sv_ 28 57 ?_; refine sv_ 29 58 ?_; refine pv_ 30 59 ?_; refine pv_ 31 60 ?_; refine sv_ 32 61 ?_; refine sv_ 33 62 ?_; refine sv_ 34 63 ?_; refine sv_ 35 64 ?_; refine sv_ 36 65 ?_; refine sv_ 37 66 ?_; refine sv_ 38 67 ?_; refine pv_ 39 68 ?_; refine dn_ HT_ ?_; try go_wp2
        go_ret
        exact ⟨u0_, bw_ HB⟩
       ·replace H := ht_ H; by_cases c23 : x24_2 > 0
        ·rw [if_pos c23] at H; have c23b0 : decide (0 < x24_2) = true := decide_eq_true c23; clear c23; obtain ⟨ji24, hji24⟩ : ∃ j_ : Int, (wrap64 (x24_2 - 1)) = j_ := ⟨_, rfl⟩; replace H : (if 0 ≤ (ji24) then (if (ji24) < (l0_1.length : Int) then (if ((ab l0_1 (ji24)).f0) ≥ ((ab l0_1 x24_2).f0) then (some false) else ((aI.f k2 l0_0 ((ab l0_1 x24_2).f1.f0) ((ab l0_1 x24_2).f1.f1)).bind fun t492 => (if t492 = true then ((cW.f l0_0 l0_1 l0_2 a0_3 ((ab l0_1 x24_2).f1.f0)).bind fun t493 => (if t493 = x24_2 then (al.l0 k2 l0_1 (l0_1.length : Int) (wrap64 (x24_2 + 1)) l0_0 l0_1 l0_2 a0_3) else (some false))) else (some false)))) else (none)) else (none)) = some r := by first | (rw [hji24] at H; exact H) | (simp only [hji24] at H ⊢; exact H)
         (try rw [hji24] at A21)
         have hji24w : (IntKind.i64.wrap (x24_2 - 1)) = ji24 := (cP _).trans hji24; obtain ⟨c25b0, H⟩ := gd_ H; obtain ⟨c26b0, H⟩ := gd_ H; by_cases c27 : ((ab l0_1 (ji24)).f0) ≥ ((ab l0_1 x24_2).f0)
         ·rw [if_pos c27] at H; have c27b0 : decide (((ab l0_1 x24_2).f0) ≤ ((ab l0_1 (ji24)).f0)) = true := decide_eq_true c27; clear c27; obtain rfl := si_ H; obtain ⟨ad488, A488_2, c488_2, e488, hx488_0, hx488_1, hx488_2, hl488_2, hi488_2⟩ := dG HR0_1.out x24_2 od_ od_; cases e488; replace hx488_0 := cb_ HB hx488_0; replace hx488_1 := cb_ HB hx488_1; replace hx488_2 := cb_ HB hx488_2; have HR488_2 := am_ hi488_2; have HC488_2 := am_ hl488_2; clear hi488_2 hl488_2; obtain ⟨p488, q488⟩ := pt_ x24_2 l0_1.length; try go_wp2_with (first | ((with_reducible refine aX (N := 4) rfl ?_); (try (refine bh cO ?_; dsimp only)); refine bB ?hg (N := 4) ?hd (cs := #[.int .i64 0, .string (⟨#[]⟩ : ByteArray), .slice none 0 0]) (t := 46) ?hr ?_; (case hd => rfl); (case hg => rfl); (case hr => exact cx); intro gb489 hg w28 hbox hb; have BK489 := am_ (hbox); have GE489 := gw_ HB hg; replace HB := bs_ HB hb; have NB481_489 := nl_ BK481 hg; have NB489_481 := ng_ BK481 hg; replace BK481 := bb_ BK481 hb; clear hb hbox hg; have hnb29 := NB489_481.out; have hnc29 := NB481_489.out; obtain ⟨hcz30_0, hcz30_1, hcz30_2, hfz30_0, hfz30_1, hfz30_2⟩ := bX BK489.out))
          have n0_ : aa ((((w28.setCell ⟨gb489, 0, none⟩ (.int .i64 ((ab l0_1 x24_2).f0))).setCell ⟨gb489, 1, none⟩ (.string ((ab l0_1 x24_2).f1.f0))).setCell ⟨gb489, 2, none⟩ (.slice A488_2 ((ab l0_1 x24_2).f1.f1).length c488_2)).heap[gb481]? = some (.cells #[.slice A0_0 l0_0.length c0_0, .slice (some ad488) l0_1.length c0_1, .slice A0_2 l0_2.length c0_2, .int .i64 a0_3] 27 (0, 0))) := ⟨u12_⟩; have n1_ : aa ((((w28.setCell ⟨gb489, 0, none⟩ (.int .i64 ((ab l0_1 x24_2).f0))).setCell ⟨gb489, 1, none⟩ (.string ((ab l0_1 x24_2).f1.f0))).setCell ⟨gb489, 2, none⟩ (.slice A488_2 ((ab l0_1 x24_2).f1.f1).length c488_2)).heap[gb489]? = some (.cells #[.int .i64 ((ab l0_1 x24_2).f0), .string ((ab l0_1 x24_2).f1.f0), .slice A488_2 ((ab l0_1 x24_2).f1.f1).length c488_2] 46 (0, 0))) := ⟨u7_⟩; have n2_ : aa (Below w.heap.size w (((w28.setCell ⟨gb489, 0, none⟩ (.int .i64 ((ab l0_1 x24_2).f0))).setCell ⟨gb489, 1, none⟩ (.string ((ab l0_1 x24_2).f1.f0))).setCell ⟨gb489, 2, none⟩ (.slice A488_2 ((ab l0_1 x24_2).f1.f1).length c488_2))) := ⟨bw_ HB⟩; (try clear BK481)
          (try clear BK489)
          (try clear HB)
          generalize (((w28.setCell ⟨gb489, 0, none⟩ (.int .i64 ((ab l0_1 x24_2).f0))).setCell ⟨gb489, 1, none⟩ (.string ((ab l0_1 x24_2).f1.f0))).setCell ⟨gb489, 2, none⟩ (.slice A488_2 ((ab l0_1 x24_2).f1.f1).length c488_2)) = w31 at n0_ n1_ n2_ ⊢; have BK481 := n0_; have BK489 := n1_; have HB := n2_; clear n0_ n1_ n2_; replace BK481 := am_ (ac BK481.out); replace BK489 := am_ (ac BK489.out); replace HB := am_ (bg HB.out); obtain ⟨ad491, A491_2, c491_2, e491, hx491_0, hx491_1, hx491_2, hl491_2, hi491_2⟩ := dG HR0_1.out (ji24) od_ od_; have hw491_2 := hx491_2; have hw491_1 := hx491_1; have hw491_0 := hx491_0; obtain rfl : ad488 = ad491 := (by injection e491); replace hx491_0 := cb_ HB hx491_0; replace hx491_1 := cb_ HB hx491_1; replace hx491_2 := cb_ HB hx491_2; have HR491_2 := am_ hi491_2; have HC491_2 := am_ hl491_2; clear hi491_2 hl491_2; obtain ⟨p491, q491⟩ := pt_ (ji24) l0_1.length; refine cT (n := 40) (S := fun w' => w'.cell? ⟨gb489, 0, none⟩ = some (.int .i64 ((ab l0_1 x24_2).f0)) ∧ w'.cell? ⟨gb489, 1, none⟩ = some (.string ((ab l0_1 x24_2).f1.f0)) ∧ w'.cell? ⟨gb489, 2, none⟩ = some (.slice A488_2 ((ab l0_1 x24_2).f1.f1).length c488_2) ∧ w'.cell? ⟨gb481, 0, none⟩ = some (.slice A0_0 l0_0.length c0_0) ∧ w'.cell? ⟨gb481, 1, none⟩ = some (.slice (some ad488) l0_1.length c0_1) ∧ w'.cell? ⟨gb481, 2, none⟩ = some (.slice A0_2 l0_2.length c0_2) ∧ w'.cell? ⟨gb481, 3, none⟩ = some (.int .i64 a0_3) ∧ w'.cell? (ad488.add (((ji24)).toNat * 3)) = some (.int .i64 ((ab l0_1 (ji24)).f0)) ∧ w'.cell? ⟨(ad488.add (((ji24)).toNat * 3)).block, (ad488.add (((ji24)).toNat * 3)).off + 1, none⟩ = some (.string ((ab l0_1 (ji24)).f1.f0)) ∧ w'.cell? ⟨(ad488.add (((ji24)).toNat * 3)).block, (ad488.add (((ji24)).toNat * 3)).off + 2, none⟩ = some (.slice A491_2 ((ab l0_1 (ji24)).f1.f1).length c491_2)) (ds := []) (bm_ 40 0) ch rfl rfl ⟨bc_ BK489 0, bc_ BK489 1, bc_ BK489 2, bc_ BK481 0, bc_ BK481 1, bc_ BK481 2, bc_ BK481 3, (cc_ HB hw491_0), (cc_ HB hw491_1), (cc_ HB hw491_2)⟩ (fun hHeld => ?_); refine bO al.tab6 al.bits6 (fun HT_ HW_ => ?_); generalize w31.drew = w32 at BK481 BK489 HB HR491_2 hx491_0 hx491_1 hx491_2 hHeld ⊢; refine pv_ 0 29 ?_; refine pv_ 2 31 ?_; refine tv_ 1 30 ?_; refine tv_ 3 32 ?_; refine pv_ 4 33 ?_; refine ov_ 5 34 (fun K hK => ?_); refine oD_ Tryz.func64 (bc.calls ((ab l0_1 x24_2).f0) 0 (wrap64 (a0_3 - 1)) true _ A21.out) ?_; intro nd; refine hK.out _ _ ⟨bc_ BK489 0, bc_ BK489 1, bc_ BK489 2, bc_ BK481 0, bc_ BK481 1, bc_ BK481 2, bc_ BK481 3, (cc_ HB hw491_0), (cc_ HB hw491_1), (cc_ HB hw491_2)⟩ (fun hHeld => ?_); clear hK K; refine nm_ ?_; refine pv_ 6 35 ?_; refine pv_ 7 36 ?_; refine pv_ 8 37 ?_; refine pv_ 9 38 ?_; refine pv_ 10 39 ?_; refine pv_ 11 40 ?_; refine pv_ 13 42 ?_; refine pv_ 14 43 ?_; refine pv_ 18 47 ?_; refine tv_ 12 41 ?_; refine pv_ 15 44 ?_; refine pv_ 16 45 ?_; refine tv_ 17 46 ?_; refine tv_ 19 48 ?_; refine pv_ 20 49 ?_; refine pv_ 21 50 ?_; refine pv_ 22 51 ?_; refine pv_ 23 52 ?_; refine sv_ 24 53 ?_; refine sv_ 25 54 ?_; refine sv_ 26 55 ?_; refine sv_ 27 56 ?_; refine sv_ 28 57 ?_; refine sv_ 29 58 ?_; refine pv_ 30 59 ?_; refine pv_ 31 60 ?_; refine sv_ 32 61 ?_; refine sv_ 33 62 ?_; refine sv_ 34 63 ?_; refine sv_ 35 64 ?_; refine sv_ 36 65 ?_; refine sv_ 37 66 ?_; refine sv_ 38 67 ?_; refine pv_ 39 68 ?_; refine dn_ HT_ ?_; try go_wp2
          go_ret
          exact ⟨u58_, bw_ HB⟩
         ·rw [if_neg c27] at H; have c27b0 : decide (((ab l0_1 x24_2).f0) ≤ ((ab l0_1 (ji24)).f0)) = false := decide_eq_false c27; clear c27; obtain ⟨t492, A33, H⟩ := bi_ H; cases t492
          ·replace H := hf_ H; obtain rfl := si_ H; obtain ⟨ad488, A488_2, c488_2, e488, hx488_0, hx488_1, hx488_2, hl488_2, hi488_2⟩ := dG HR0_1.out x24_2 od_ od_; cases e488; replace hx488_0 := cb_ HB hx488_0; replace hx488_1 := cb_ HB hx488_1; replace hx488_2 := cb_ HB hx488_2; have HR488_2 := am_ hi488_2; have HC488_2 := am_ hl488_2; clear hi488_2 hl488_2; obtain ⟨p488, q488⟩ := pt_ x24_2 l0_1.length; try go_wp2_with (first | ((with_reducible refine aX (N := 4) rfl ?_); (try (refine bh cO ?_; dsimp only)); refine bB ?hg (N := 4) ?hd (cs := #[.int .i64 0, .string (⟨#[]⟩ : ByteArray), .slice none 0 0]) (t := 46) ?hr ?_; (case hd => rfl); (case hg => rfl); (case hr => exact cx); intro gb489 hg w51 hbox hb; have BK489 := am_ (hbox); have GE489 := gw_ HB hg; replace HB := bs_ HB hb; have NB481_489 := nl_ BK481 hg; have NB489_481 := ng_ BK481 hg; replace BK481 := bb_ BK481 hb; clear hb hbox hg; have hnb52 := NB489_481.out; have hnc52 := NB481_489.out; obtain ⟨hcz53_0, hcz53_1, hcz53_2, hfz53_0, hfz53_1, hfz53_2⟩ := bX BK489.out))
           have n0_ : aa ((((w51.setCell ⟨gb489, 0, none⟩ (.int .i64 ((ab l0_1 x24_2).f0))).setCell ⟨gb489, 1, none⟩ (.string ((ab l0_1 x24_2).f1.f0))).setCell ⟨gb489, 2, none⟩ (.slice A488_2 ((ab l0_1 x24_2).f1.f1).length c488_2)).heap[gb481]? = some (.cells #[.slice A0_0 l0_0.length c0_0, .slice (some ad488) l0_1.length c0_1, .slice A0_2 l0_2.length c0_2, .int .i64 a0_3] 27 (0, 0))) := ⟨u12_⟩; have n1_ : aa ((((w51.setCell ⟨gb489, 0, none⟩ (.int .i64 ((ab l0_1 x24_2).f0))).setCell ⟨gb489, 1, none⟩ (.string ((ab l0_1 x24_2).f1.f0))).setCell ⟨gb489, 2, none⟩ (.slice A488_2 ((ab l0_1 x24_2).f1.f1).length c488_2)).heap[gb489]? = some (.cells #[.int .i64 ((ab l0_1 x24_2).f0), .string ((ab l0_1 x24_2).f1.f0), .slice A488_2 ((ab l0_1 x24_2).f1.f1).length c488_2] 46 (0, 0))) := ⟨u7_⟩; have n2_ : aa (Below w.heap.size w (((w51.setCell ⟨gb489, 0, none⟩ (.int .i64 ((ab l0_1 x24_2).f0))).setCell ⟨gb489, 1, none⟩ (.string ((ab l0_1 x24_2).f1.f0))).setCell ⟨gb489, 2, none⟩ (.slice A488_2 ((ab l0_1 x24_2).f1.f1).length c488_2))) := ⟨bw_ HB⟩; (try clear BK481)
           (try clear BK489)
           (try clear HB)
           generalize (((w51.setCell ⟨gb489, 0, none⟩ (.int .i64 ((ab l0_1 x24_2).f0))).setCell ⟨gb489, 1, none⟩ (.string ((ab l0_1 x24_2).f1.f0))).setCell ⟨gb489, 2, none⟩ (.slice A488_2 ((ab l0_1 x24_2).f1.f1).length c488_2)) = w54 at n0_ n1_ n2_ ⊢; have BK481 := n0_; have BK489 := n1_; have HB := n2_; clear n0_ n1_ n2_; replace BK481 := am_ (ac BK481.out); replace BK489 := am_ (ac BK489.out); replace HB := am_ (bg HB.out); obtain ⟨ad491, A491_2, c491_2, e491, hx491_0, hx491_1, hx491_2, hl491_2, hi491_2⟩ := dG HR0_1.out (ji24) od_ od_; have hw491_2 := hx491_2; have hw491_1 := hx491_1; have hw491_0 := hx491_0; obtain rfl : ad488 = ad491 := (by injection e491); replace hx491_0 := cb_ HB hx491_0; replace hx491_1 := cb_ HB hx491_1; replace hx491_2 := cb_ HB hx491_2; have HR491_2 := am_ hi491_2; have HC491_2 := am_ hl491_2; clear hi491_2 hl491_2; obtain ⟨p491, q491⟩ := pt_ (ji24) l0_1.length; refine cT (n := 40) (S := fun w' => w'.cell? ⟨gb489, 0, none⟩ = some (.int .i64 ((ab l0_1 x24_2).f0)) ∧ w'.cell? ⟨gb489, 1, none⟩ = some (.string ((ab l0_1 x24_2).f1.f0)) ∧ w'.cell? ⟨gb489, 2, none⟩ = some (.slice A488_2 ((ab l0_1 x24_2).f1.f1).length c488_2) ∧ w'.cell? ⟨gb481, 0, none⟩ = some (.slice A0_0 l0_0.length c0_0) ∧ w'.cell? ⟨gb481, 1, none⟩ = some (.slice (some ad488) l0_1.length c0_1) ∧ w'.cell? ⟨gb481, 2, none⟩ = some (.slice A0_2 l0_2.length c0_2) ∧ w'.cell? ⟨gb481, 3, none⟩ = some (.int .i64 a0_3) ∧ w'.cell? (ad488.add (((ji24)).toNat * 3)) = some (.int .i64 ((ab l0_1 (ji24)).f0)) ∧ w'.cell? ⟨(ad488.add (((ji24)).toNat * 3)).block, (ad488.add (((ji24)).toNat * 3)).off + 1, none⟩ = some (.string ((ab l0_1 (ji24)).f1.f0)) ∧ w'.cell? ⟨(ad488.add (((ji24)).toNat * 3)).block, (ad488.add (((ji24)).toNat * 3)).off + 2, none⟩ = some (.slice A491_2 ((ab l0_1 (ji24)).f1.f1).length c491_2)) (ds := []) (bm_ 40 0) ch rfl rfl ⟨bc_ BK489 0, bc_ BK489 1, bc_ BK489 2, bc_ BK481 0, bc_ BK481 1, bc_ BK481 2, bc_ BK481 3, (cc_ HB hw491_0), (cc_ HB hw491_1), (cc_ HB hw491_2)⟩ (fun hHeld => ?_); refine bO al.tab6 al.bits6 (fun HT_ HW_ => ?_); generalize w54.drew = w55 at BK481 BK489 HB HR491_2 hx491_0 hx491_1 hx491_2 hHeld ⊢; refine pv_ 0 29 ?_; refine pv_ 2 31 ?_; refine tv_ 1 30 ?_; refine tv_ 3 32 ?_; refine pv_ 4 33 ?_; refine ov_ 5 34 (fun K hK => ?_); refine oD_ Tryz.func64 (bc.calls ((ab l0_1 x24_2).f0) 0 (wrap64 (a0_3 - 1)) true _ A21.out) ?_; intro nd; refine hK.out _ _ ⟨bc_ BK489 0, bc_ BK489 1, bc_ BK489 2, bc_ BK481 0, bc_ BK481 1, bc_ BK481 2, bc_ BK481 3, (cc_ HB hw491_0), (cc_ HB hw491_1), (cc_ HB hw491_2)⟩ (fun hHeld => ?_); clear hK K; refine nm_ ?_; refine pv_ 6 35 ?_; refine pv_ 7 36 ?_; refine pv_ 8 37 ?_; refine pv_ 9 38 ?_; refine pv_ 10 39 ?_; refine pv_ 11 40 ?_; refine pv_ 13 42 ?_; refine pv_ 14 43 ?_; refine pv_ 18 47 ?_; refine tv_ 12 41 ?_; refine pv_ 15 44 ?_; refine pv_ 16 45 ?_; refine tv_ 17 46 ?_; refine tv_ 19 48 ?_; refine pv_ 20 49 ?_; refine pv_ 21 50 ?_; refine pv_ 22 51 ?_; refine pv_ 23 52 ?_; refine pv_ 24 53 ?_; refine pv_ 26 55 ?_; refine tv_ 25 54 ?_; refine tv_ 27 56 ?_; refine ov_ 28 57 (fun K hK => ?_); refine go_ Tryz.func65 (aI.calls k2 _ _ l0_0 ((ab l0_1 x24_2).f1.f0) _ _ ((ab l0_1 x24_2).f1.f1) false _ ?side1 ?side2 HC0_0.out ?side4 HC488_2.out A33.out) ?_; (case side1 => exact i1)
           (case side2 => exact u35_)
           (case side4 => exact u43_)
           rintro e w56 ⟨rfl, hb⟩; refine ⟨_, rfl, ?_⟩; replace BK481 := bb_ BK481 hb; replace BK489 := bb_ BK489 hb; replace HB := bs_ HB hb; (try clear hb)
           refine hK.out _ _ ⟨bc_ BK489 0, bc_ BK489 1, bc_ BK489 2, bc_ BK481 0, bc_ BK481 1, bc_ BK481 2, bc_ BK481 3, (cc_ HB hw491_0), (cc_ HB hw491_1), (cc_ HB hw491_2)⟩ (fun hHeld => ?_); clear hK K; refine nm_ ?_; refine pv_ 29 58 ?_; refine pv_ 30 59 ?_; refine pv_ 31 60 ?_; refine sv_ 32 61 ?_; refine sv_ 33 62 ?_; refine sv_ 34 63 ?_; refine sv_ 35 64 ?_; refine sv_ 36 65 ?_; refine sv_ 37 66 ?_; refine sv_ 38 67 ?_; refine pv_ 39 68 ?_; refine dn_ HT_ ?_; try go_wp2
           go_ret
           exact ⟨u58_, bw_ HB⟩
          ·replace H := ht_ H; obtain ⟨t493, A35, H⟩ := bi_ H; have HC_ := am_ H; clear H; obtain ⟨ad488, A488_2, c488_2, e488, hx488_0, hx488_1, hx488_2, hl488_2, hi488_2⟩ := dG HR0_1.out x24_2 od_ od_; cases e488; replace hx488_0 := cb_ HB hx488_0; replace hx488_1 := cb_ HB hx488_1; replace hx488_2 := cb_ HB hx488_2; have HR488_2 := am_ hi488_2; have HC488_2 := am_ hl488_2; clear hi488_2 hl488_2; obtain ⟨p488, q488⟩ := pt_ x24_2 l0_1.length; try go_wp2_with (first | ((with_reducible refine aX (N := 4) rfl ?_); (try (refine bh cO ?_; dsimp only)); refine bB ?hg (N := 4) ?hd (cs := #[.int .i64 0, .string (⟨#[]⟩ : ByteArray), .slice none 0 0]) (t := 46) ?hr ?_; (case hd => rfl); (case hg => rfl); (case hr => exact cx); intro gb489 hg w37 hbox hb; have BK489 := am_ (hbox); have GE489 := gw_ HB hg; replace HB := bs_ HB hb; have NB481_489 := nl_ BK481 hg; have NB489_481 := ng_ BK481 hg; replace BK481 := bb_ BK481 hb; clear hb hbox hg; have hnb38 := NB489_481.out; have hnc38 := NB481_489.out; obtain ⟨hcz39_0, hcz39_1, hcz39_2, hfz39_0, hfz39_1, hfz39_2⟩ := bX BK489.out))
           have n0_ : aa ((((w37.setCell ⟨gb489, 0, none⟩ (.int .i64 ((ab l0_1 x24_2).f0))).setCell ⟨gb489, 1, none⟩ (.string ((ab l0_1 x24_2).f1.f0))).setCell ⟨gb489, 2, none⟩ (.slice A488_2 ((ab l0_1 x24_2).f1.f1).length c488_2)).heap[gb481]? = some (.cells #[.slice A0_0 l0_0.length c0_0, .slice (some ad488) l0_1.length c0_1, .slice A0_2 l0_2.length c0_2, .int .i64 a0_3] 27 (0, 0))) := ⟨u12_⟩; have n1_ : aa ((((w37.setCell ⟨gb489, 0, none⟩ (.int .i64 ((ab l0_1 x24_2).f0))).setCell ⟨gb489, 1, none⟩ (.string ((ab l0_1 x24_2).f1.f0))).setCell ⟨gb489, 2, none⟩ (.slice A488_2 ((ab l0_1 x24_2).f1.f1).length c488_2)).heap[gb489]? = some (.cells #[.int .i64 ((ab l0_1 x24_2).f0), .string ((ab l0_1 x24_2).f1.f0), .slice A488_2 ((ab l0_1 x24_2).f1.f1).length c488_2] 46 (0, 0))) := ⟨u7_⟩; have n2_ : aa (Below w.heap.size w (((w37.setCell ⟨gb489, 0, none⟩ (.int .i64 ((ab l0_1 x24_2).f0))).setCell ⟨gb489, 1, none⟩ (.string ((ab l0_1 x24_2).f1.f0))).setCell ⟨gb489, 2, none⟩ (.slice A488_2 ((ab l0_1 x24_2).f1.f1).length c488_2))) := ⟨bw_ HB⟩; (try clear BK481)
           (try clear BK489)
           (try clear HB)
           generalize (((w37.setCell ⟨gb489, 0, none⟩ (.int .i64 ((ab l0_1 x24_2).f0))).setCell ⟨gb489, 1, none⟩ (.string ((ab l0_1 x24_2).f1.f0))).setCell ⟨gb489, 2, none⟩ (.slice A488_2 ((ab l0_1 x24_2).f1.f1).length c488_2)) = w40 at n0_ n1_ n2_ ⊢; have BK481 := n0_; have BK489 := n1_; have HB := n2_; clear n0_ n1_ n2_; replace BK481 := am_ (ac BK481.out); replace BK489 := am_ (ac BK489.out); replace HB := am_ (bg HB.out); obtain ⟨ad491, A491_2, c491_2, e491, hx491_0, hx491_1, hx491_2, hl491_2, hi491_2⟩ := dG HR0_1.out (ji24) od_ od_; have hw491_2 := hx491_2; have hw491_1 := hx491_1; have hw491_0 := hx491_0; obtain rfl : ad488 = ad491 := (by injection e491); replace hx491_0 := cb_ HB hx491_0; replace hx491_1 := cb_ HB hx491_1; replace hx491_2 := cb_ HB hx491_2; have HR491_2 := am_ hi491_2; have HC491_2 := am_ hl491_2; clear hi491_2 hl491_2; obtain ⟨p491, q491⟩ := pt_ (ji24) l0_1.length; refine cT (n := 40) (S := fun w' => w'.cell? ⟨gb489, 0, none⟩ = some (.int .i64 ((ab l0_1 x24_2).f0)) ∧ w'.cell? ⟨gb489, 1, none⟩ = some (.string ((ab l0_1 x24_2).f1.f0)) ∧ w'.cell? ⟨gb489, 2, none⟩ = some (.slice A488_2 ((ab l0_1 x24_2).f1.f1).length c488_2) ∧ w'.cell? ⟨gb481, 0, none⟩ = some (.slice A0_0 l0_0.length c0_0) ∧ w'.cell? ⟨gb481, 1, none⟩ = some (.slice (some ad488) l0_1.length c0_1) ∧ w'.cell? ⟨gb481, 2, none⟩ = some (.slice A0_2 l0_2.length c0_2) ∧ w'.cell? ⟨gb481, 3, none⟩ = some (.int .i64 a0_3) ∧ w'.cell? (ad488.add (((ji24)).toNat * 3)) = some (.int .i64 ((ab l0_1 (ji24)).f0)) ∧ w'.cell? ⟨(ad488.add (((ji24)).toNat * 3)).block, (ad488.add (((ji24)).toNat * 3)).off + 1, none⟩ = some (.string ((ab l0_1 (ji24)).f1.f0)) ∧ w'.cell? ⟨(ad488.add (((ji24)).toNat * 3)).block, (ad488.add (((ji24)).toNat * 3)).off + 2, none⟩ = some (.slice A491_2 ((ab l0_1 (ji24)).f1.f1).length c491_2)) (ds := []) (bm_ 40 0) ch rfl rfl ⟨bc_ BK489 0, bc_ BK489 1, bc_ BK489 2, bc_ BK481 0, bc_ BK481 1, bc_ BK481 2, bc_ BK481 3, (cc_ HB hw491_0), (cc_ HB hw491_1), (cc_ HB hw491_2)⟩ (fun hHeld => ?_); refine bO al.tab6 al.bits6 (fun HT_ HW_ => ?_); generalize w40.drew = w41 at BK481 BK489 HB HR491_2 hx491_0 hx491_1 hx491_2 hHeld ⊢; refine pv_ 0 29 ?_; refine pv_ 2 31 ?_; refine tv_ 1 30 ?_; refine tv_ 3 32 ?_; refine pv_ 4 33 ?_; refine ov_ 5 34 (fun K hK => ?_); refine oD_ Tryz.func64 (bc.calls ((ab l0_1 x24_2).f0) 0 (wrap64 (a0_3 - 1)) true _ A21.out) ?_; intro nd; refine hK.out _ _ ⟨bc_ BK489 0, bc_ BK489 1, bc_ BK489 2, bc_ BK481 0, bc_ BK481 1, bc_ BK481 2, bc_ BK481 3, (cc_ HB hw491_0), (cc_ HB hw491_1), (cc_ HB hw491_2)⟩ (fun hHeld => ?_); clear hK K; refine nm_ ?_; refine pv_ 6 35 ?_; refine pv_ 7 36 ?_; refine pv_ 8 37 ?_; refine pv_ 9 38 ?_; refine pv_ 10 39 ?_; refine pv_ 11 40 ?_; refine pv_ 13 42 ?_; refine pv_ 14 43 ?_; refine pv_ 18 47 ?_; refine tv_ 12 41 ?_; refine pv_ 15 44 ?_; refine pv_ 16 45 ?_; refine tv_ 17 46 ?_; refine tv_ 19 48 ?_; refine pv_ 20 49 ?_; refine pv_ 21 50 ?_; refine pv_ 22 51 ?_; refine pv_ 23 52 ?_; refine pv_ 24 53 ?_; refine pv_ 26 55 ?_; refine tv_ 25 54 ?_; refine tv_ 27 56 ?_; refine ov_ 28 57 (fun K hK => ?_); refine go_ Tryz.func65 (aI.calls k2 _ _ l0_0 ((ab l0_1 x24_2).f1.f0) _ _ ((ab l0_1 x24_2).f1.f1) true _ ?side1 ?side2 HC0_0.out ?side4 HC488_2.out A33.out) ?_; (case side1 => exact i1)
           (case side2 => exact u35_)
           (case side4 => exact u43_)
           rintro e w42 ⟨rfl, hb⟩; refine ⟨_, rfl, ?_⟩; replace BK481 := bb_ BK481 hb; replace BK489 := bb_ BK489 hb; replace HB := bs_ HB hb; (try clear hb)
           refine hK.out _ _ ⟨bc_ BK489 0, bc_ BK489 1, bc_ BK489 2, bc_ BK481 0, bc_ BK481 1, bc_ BK481 2, bc_ BK481 3, (cc_ HB hw491_0), (cc_ HB hw491_1), (cc_ HB hw491_2)⟩ (fun hHeld => ?_); clear hK K; refine nm_ ?_; refine pv_ 29 58 ?_; refine pv_ 30 59 ?_; refine pv_ 31 60 ?_; refine pv_ 33 62 ?_; refine pv_ 34 63 ?_; refine pv_ 37 66 ?_; refine tv_ 32 61 ?_; refine tv_ 35 64 ?_; refine ov_ 36 65 (fun K hK => ?_); refine oB_ Tryz.func66 (cW.calls _ _ l0_0 _ _ l0_1 _ _ l0_2 a0_3 ((ab l0_1 x24_2).f1.f0) t493 _ (kc_ HR0_0 HB) HC0_0.out (kc_ HR0_1 HB) HC0_1.out (kc_ HR0_2 HB) HC0_2.out A35.out) ?_; intro w43 hb; replace BK481 := bb_ BK481 hb; replace BK489 := bb_ BK489 hb; replace HB := bs_ HB hb; (try clear hb)
           refine hK.out _ _ ⟨bc_ BK489 0, bc_ BK489 1, bc_ BK489 2, bc_ BK481 0, bc_ BK481 1, bc_ BK481 2, bc_ BK481 3, (cc_ HB hw491_0), (cc_ HB hw491_1), (cc_ HB hw491_2)⟩ (fun hHeld => ?_); clear hK K; refine nm_ ?_; refine pv_ 38 67 ?_; refine pv_ 39 68 ?_; refine dn_ HT_ ?_; have H := HC_.out; clear HC_; by_cases c36 : t493 = x24_2
           ·rw [if_pos c36] at H; have c36b0 := db c36; have c36b1 := dd c36; clear c36; have H' := am_ H; clear H; (first | rw [c36b0] | (simp only [cP, dz]; rw [c36b0]) | skip)
            try go_wp2
            go_roundg k2
            case measure => have := HJ1.out; have := HK2.out; omega
            case rel => exact ⟨(wrap64 (x24_2 + 1)), u1_, H', ⟨by have := HJ1.out; have := HK2.out; omega⟩, ⟨u42_⟩, ⟨bw_ HB⟩⟩
           ·rw [if_neg c36] at H; have c36b0 := da c36; have c36b1 := dc c36; obtain rfl := si_ H; (first | rw [c36b0] | (simp only [cP, dz]; rw [c36b0]) | skip)
            try go_wp2
            go_ret
            exact ⟨u58_, bw_ HB⟩
        ·rw [if_neg c23] at H; have c23b0 : decide (0 < x24_2) = false := decide_eq_false c23; clear c23; obtain ⟨t494, A57, H⟩ := bi_ H; cases t494
         ·replace H := hf_ H; obtain rfl := si_ H; obtain ⟨ad488, A488_2, c488_2, e488, hx488_0, hx488_1, hx488_2, hl488_2, hi488_2⟩ := dG HR0_1.out x24_2 od_ od_; cases e488; replace hx488_0 := cb_ HB hx488_0; replace hx488_1 := cb_ HB hx488_1; replace hx488_2 := cb_ HB hx488_2; have HR488_2 := am_ hi488_2; have HC488_2 := am_ hl488_2; clear hi488_2 hl488_2; obtain ⟨p488, q488⟩ := pt_ x24_2 l0_1.length; try go_wp2_with (first | ((with_reducible refine aX (N := 4) rfl ?_); (try (refine bh cO ?_; dsimp only)); refine bB ?hg (N := 4) ?hd (cs := #[.int .i64 0, .string (⟨#[]⟩ : ByteArray), .slice none 0 0]) (t := 46) ?hr ?_; (case hd => rfl); (case hg => rfl); (case hr => exact cx); intro gb489 hg w75 hbox hb; have BK489 := am_ (hbox); have GE489 := gw_ HB hg; replace HB := bs_ HB hb; have NB481_489 := nl_ BK481 hg; have NB489_481 := ng_ BK481 hg; replace BK481 := bb_ BK481 hb; clear hb hbox hg; have hnb76 := NB489_481.out; have hnc76 := NB481_489.out; obtain ⟨hcz77_0, hcz77_1, hcz77_2, hfz77_0, hfz77_1, hfz77_2⟩ := bX BK489.out))
          have n0_ : aa ((((w75.setCell ⟨gb489, 0, none⟩ (.int .i64 ((ab l0_1 x24_2).f0))).setCell ⟨gb489, 1, none⟩ (.string ((ab l0_1 x24_2).f1.f0))).setCell ⟨gb489, 2, none⟩ (.slice A488_2 ((ab l0_1 x24_2).f1.f1).length c488_2)).heap[gb481]? = some (.cells #[.slice A0_0 l0_0.length c0_0, .slice (some ad488) l0_1.length c0_1, .slice A0_2 l0_2.length c0_2, .int .i64 a0_3] 27 (0, 0))) := ⟨u12_⟩; have n1_ : aa ((((w75.setCell ⟨gb489, 0, none⟩ (.int .i64 ((ab l0_1 x24_2).f0))).setCell ⟨gb489, 1, none⟩ (.string ((ab l0_1 x24_2).f1.f0))).setCell ⟨gb489, 2, none⟩ (.slice A488_2 ((ab l0_1 x24_2).f1.f1).length c488_2)).heap[gb489]? = some (.cells #[.int .i64 ((ab l0_1 x24_2).f0), .string ((ab l0_1 x24_2).f1.f0), .slice A488_2 ((ab l0_1 x24_2).f1.f1).length c488_2] 46 (0, 0))) := ⟨u7_⟩; have n2_ : aa (Below w.heap.size w (((w75.setCell ⟨gb489, 0, none⟩ (.int .i64 ((ab l0_1 x24_2).f0))).setCell ⟨gb489, 1, none⟩ (.string ((ab l0_1 x24_2).f1.f0))).setCell ⟨gb489, 2, none⟩ (.slice A488_2 ((ab l0_1 x24_2).f1.f1).length c488_2))) := ⟨bw_ HB⟩; (try clear BK481)
          (try clear BK489)
          (try clear HB)
          generalize (((w75.setCell ⟨gb489, 0, none⟩ (.int .i64 ((ab l0_1 x24_2).f0))).setCell ⟨gb489, 1, none⟩ (.string ((ab l0_1 x24_2).f1.f0))).setCell ⟨gb489, 2, none⟩ (.slice A488_2 ((ab l0_1 x24_2).f1.f1).length c488_2)) = w78 at n0_ n1_ n2_ ⊢; have BK481 := n0_; have BK489 := n1_; have HB := n2_; clear n0_ n1_ n2_; replace BK481 := am_ (ac BK481.out); replace BK489 := am_ (ac BK489.out); replace HB := am_ (bg HB.out); refine cT (n := 40) (S := fun w' => w'.cell? ⟨gb489, 0, none⟩ = some (.int .i64 ((ab l0_1 x24_2).f0)) ∧ w'.cell? ⟨gb489, 1, none⟩ = some (.string ((ab l0_1 x24_2).f1.f0)) ∧ w'.cell? ⟨gb489, 2, none⟩ = some (.slice A488_2 ((ab l0_1 x24_2).f1.f1).length c488_2) ∧ w'.cell? ⟨gb481, 0, none⟩ = some (.slice A0_0 l0_0.length c0_0) ∧ w'.cell? ⟨gb481, 1, none⟩ = some (.slice (some ad488) l0_1.length c0_1) ∧ w'.cell? ⟨gb481, 2, none⟩ = some (.slice A0_2 l0_2.length c0_2) ∧ w'.cell? ⟨gb481, 3, none⟩ = some (.int .i64 a0_3)) (ds := []) (bm_ 40 0) ch rfl rfl ⟨bc_ BK489 0, bc_ BK489 1, bc_ BK489 2, bc_ BK481 0, bc_ BK481 1, bc_ BK481 2, bc_ BK481 3⟩ (fun hHeld => ?_); refine bO al.tab6 al.bits6 (fun HT_ HW_ => ?_); generalize w78.drew = w79 at BK481 BK489 HB hHeld ⊢; refine pv_ 0 29 ?_; refine pv_ 2 31 ?_; refine tv_ 1 30 ?_; refine tv_ 3 32 ?_; refine pv_ 4 33 ?_; refine ov_ 5 34 (fun K hK => ?_); refine oD_ Tryz.func64 (bc.calls ((ab l0_1 x24_2).f0) 0 (wrap64 (a0_3 - 1)) true _ A21.out) ?_; intro nd; refine hK.out _ _ ⟨bc_ BK489 0, bc_ BK489 1, bc_ BK489 2, bc_ BK481 0, bc_ BK481 1, bc_ BK481 2, bc_ BK481 3⟩ (fun hHeld => ?_); clear hK K; refine nm_ ?_; refine pv_ 6 35 ?_; refine pv_ 7 36 ?_; refine pv_ 8 37 ?_; refine pv_ 9 38 ?_; refine pv_ 10 39 ?_; refine sv_ 11 40 ?_; refine sv_ 12 41 ?_; refine sv_ 13 42 ?_; refine sv_ 14 43 ?_; refine sv_ 15 44 ?_; refine sv_ 16 45 ?_; refine sv_ 17 46 ?_; refine sv_ 18 47 ?_; refine sv_ 19 48 ?_; refine sv_ 20 49 ?_; refine pv_ 21 50 ?_; refine pv_ 22 51 ?_; refine pv_ 23 52 ?_; refine pv_ 24 53 ?_; refine pv_ 26 55 ?_; refine tv_ 25 54 ?_; refine tv_ 27 56 ?_; refine ov_ 28 57 (fun K hK => ?_); refine go_ Tryz.func65 (aI.calls k2 _ _ l0_0 ((ab l0_1 x24_2).f1.f0) _ _ ((ab l0_1 x24_2).f1.f1) false _ ?side1 ?side2 HC0_0.out ?side4 HC488_2.out A57.out) ?_; (case side1 => exact i1)
          (case side2 => exact u35_)
          (case side4 => exact u43_)
          rintro e w80 ⟨rfl, hb⟩; refine ⟨_, rfl, ?_⟩; replace BK481 := bb_ BK481 hb; replace BK489 := bb_ BK489 hb; replace HB := bs_ HB hb; (try clear hb)
          refine hK.out _ _ ⟨bc_ BK489 0, bc_ BK489 1, bc_ BK489 2, bc_ BK481 0, bc_ BK481 1, bc_ BK481 2, bc_ BK481 3⟩ (fun hHeld => ?_); clear hK K; refine nm_ ?_; refine pv_ 29 58 ?_; refine pv_ 30 59 ?_; refine pv_ 31 60 ?_; refine sv_ 32 61 ?_; refine sv_ 33 62 ?_; refine sv_ 34 63 ?_; refine sv_ 35 64 ?_; refine sv_ 36 65 ?_; refine sv_ 37 66 ?_; refine sv_ 38 67 ?_; refine pv_ 39 68 ?_; refine dn_ HT_ ?_; try go_wp2
          go_ret
          exact ⟨u0_, bw_ HB⟩
         ·replace H := ht_ H; obtain ⟨t495, A59, H⟩ := bi_ H; have HC_ := am_ H; clear H; obtain ⟨ad488, A488_2, c488_2, e488, hx488_0, hx488_1, hx488_2, hl488_2, hi488_2⟩ := dG HR0_1.out x24_2 od_ od_; cases e488; replace hx488_0 := cb_ HB hx488_0; replace hx488_1 := cb_ HB hx488_1; replace hx488_2 := cb_ HB hx488_2; have HR488_2 := am_ hi488_2; have HC488_2 := am_ hl488_2; clear hi488_2 hl488_2; obtain ⟨p488, q488⟩ := pt_ x24_2 l0_1.length; try go_wp2_with (first | ((with_reducible refine aX (N := 4) rfl ?_); (try (refine bh cO ?_; dsimp only)); refine bB ?hg (N := 4) ?hd (cs := #[.int .i64 0, .string (⟨#[]⟩ : ByteArray), .slice none 0 0]) (t := 46) ?hr ?_; (case hd => rfl); (case hg => rfl); (case hr => exact cx); intro gb489 hg w61 hbox hb; have BK489 := am_ (hbox); have GE489 := gw_ HB hg; replace HB := bs_ HB hb; have NB481_489 := nl_ BK481 hg; have NB489_481 := ng_ BK481 hg; replace BK481 := bb_ BK481 hb; clear hb hbox hg; have hnb62 := NB489_481.out; have hnc62 := NB481_489.out; obtain ⟨hcz63_0, hcz63_1, hcz63_2, hfz63_0, hfz63_1, hfz63_2⟩ := bX BK489.out))
          have n0_ : aa ((((w61.setCell ⟨gb489, 0, none⟩ (.int .i64 ((ab l0_1 x24_2).f0))).setCell ⟨gb489, 1, none⟩ (.string ((ab l0_1 x24_2).f1.f0))).setCell ⟨gb489, 2, none⟩ (.slice A488_2 ((ab l0_1 x24_2).f1.f1).length c488_2)).heap[gb481]? = some (.cells #[.slice A0_0 l0_0.length c0_0, .slice (some ad488) l0_1.length c0_1, .slice A0_2 l0_2.length c0_2, .int .i64 a0_3] 27 (0, 0))) := ⟨u12_⟩; have n1_ : aa ((((w61.setCell ⟨gb489, 0, none⟩ (.int .i64 ((ab l0_1 x24_2).f0))).setCell ⟨gb489, 1, none⟩ (.string ((ab l0_1 x24_2).f1.f0))).setCell ⟨gb489, 2, none⟩ (.slice A488_2 ((ab l0_1 x24_2).f1.f1).length c488_2)).heap[gb489]? = some (.cells #[.int .i64 ((ab l0_1 x24_2).f0), .string ((ab l0_1 x24_2).f1.f0), .slice A488_2 ((ab l0_1 x24_2).f1.f1).length c488_2] 46 (0, 0))) := ⟨u7_⟩; have n2_ : aa (Below w.heap.size w (((w61.setCell ⟨gb489, 0, none⟩ (.int .i64 ((ab l0_1 x24_2).f0))).setCell ⟨gb489, 1, none⟩ (.string ((ab l0_1 x24_2).f1.f0))).setCell ⟨gb489, 2, none⟩ (.slice A488_2 ((ab l0_1 x24_2).f1.f1).length c488_2))) := ⟨bw_ HB⟩; (try clear BK481)
          (try clear BK489)
          (try clear HB)
          generalize (((w61.setCell ⟨gb489, 0, none⟩ (.int .i64 ((ab l0_1 x24_2).f0))).setCell ⟨gb489, 1, none⟩ (.string ((ab l0_1 x24_2).f1.f0))).setCell ⟨gb489, 2, none⟩ (.slice A488_2 ((ab l0_1 x24_2).f1.f1).length c488_2)) = w64 at n0_ n1_ n2_ ⊢; have BK481 := n0_; have BK489 := n1_; have HB := n2_; clear n0_ n1_ n2_; replace BK481 := am_ (ac BK481.out); replace BK489 := am_ (ac BK489.out); replace HB := am_ (bg HB.out); refine cT (n := 40) (S := fun w' => w'.cell? ⟨gb489, 0, none⟩ = some (.int .i64 ((ab l0_1 x24_2).f0)) ∧ w'.cell? ⟨gb489, 1, none⟩ = some (.string ((ab l0_1 x24_2).f1.f0)) ∧ w'.cell? ⟨gb489, 2, none⟩ = some (.slice A488_2 ((ab l0_1 x24_2).f1.f1).length c488_2) ∧ w'.cell? ⟨gb481, 0, none⟩ = some (.slice A0_0 l0_0.length c0_0) ∧ w'.cell? ⟨gb481, 1, none⟩ = some (.slice (some ad488) l0_1.length c0_1) ∧ w'.cell? ⟨gb481, 2, none⟩ = some (.slice A0_2 l0_2.length c0_2) ∧ w'.cell? ⟨gb481, 3, none⟩ = some (.int .i64 a0_3)) (ds := []) (bm_ 40 0) ch rfl rfl ⟨bc_ BK489 0, bc_ BK489 1, bc_ BK489 2, bc_ BK481 0, bc_ BK481 1, bc_ BK481 2, bc_ BK481 3⟩ (fun hHeld => ?_); refine bO al.tab6 al.bits6 (fun HT_ HW_ => ?_); generalize w64.drew = w65 at BK481 BK489 HB hHeld ⊢; refine pv_ 0 29 ?_; refine pv_ 2 31 ?_; refine tv_ 1 30 ?_; refine tv_ 3 32 ?_; refine pv_ 4 33 ?_; refine ov_ 5 34 (fun K hK => ?_); refine oD_ Tryz.func64 (bc.calls ((ab l0_1 x24_2).f0) 0 (wrap64 (a0_3 - 1)) true _ A21.out) ?_; intro nd; refine hK.out _ _ ⟨bc_ BK489 0, bc_ BK489 1, bc_ BK489 2, bc_ BK481 0, bc_ BK481 1, bc_ BK481 2, bc_ BK481 3⟩ (fun hHeld => ?_); clear hK K; refine nm_ ?_; refine pv_ 6 35 ?_; refine pv_ 7 36 ?_; refine pv_ 8 37 ?_; refine pv_ 9 38 ?_; refine pv_ 10 39 ?_; refine sv_ 11 40 ?_; refine sv_ 12 41 ?_; refine sv_ 13 42 ?_; refine sv_ 14 43 ?_; refine sv_ 15 44 ?_; refine sv_ 16 45 ?_; refine sv_ 17 46 ?_; refine sv_ 18 47 ?_; refine sv_ 19 48 ?_; refine sv_ 20 49 ?_; refine pv_ 21 50 ?_; refine pv_ 22 51 ?_; refine pv_ 23 52 ?_; refine pv_ 24 53 ?_; refine pv_ 26 55 ?_; refine tv_ 25 54 ?_; refine tv_ 27 56 ?_; refine ov_ 28 57 (fun K hK => ?_); refine go_ Tryz.func65 (aI.calls k2 _ _ l0_0 ((ab l0_1 x24_2).f1.f0) _ _ ((ab l0_1 x24_2).f1.f1) true _ ?side1 ?side2 HC0_0.out ?side4 HC488_2.out A57.out) ?_; (case side1 => exact i1)
          (case side2 => exact u35_)
          (case side4 => exact u43_)
          rintro e w66 ⟨rfl, hb⟩; refine ⟨_, rfl, ?_⟩; replace BK481 := bb_ BK481 hb; replace BK489 := bb_ BK489 hb; replace HB := bs_ HB hb; (try clear hb)
          refine hK.out _ _ ⟨bc_ BK489 0, bc_ BK489 1, bc_ BK489 2, bc_ BK481 0, bc_ BK481 1, bc_ BK481 2, bc_ BK481 3⟩ (fun hHeld => ?_); clear hK K; refine nm_ ?_; refine pv_ 29 58 ?_; refine pv_ 30 59 ?_; refine pv_ 31 60 ?_; refine pv_ 33 62 ?_; refine pv_ 34 63 ?_; refine pv_ 37 66 ?_; refine tv_ 32 61 ?_; refine tv_ 35 64 ?_; refine ov_ 36 65 (fun K hK => ?_); refine oB_ Tryz.func66 (cW.calls _ _ l0_0 _ _ l0_1 _ _ l0_2 a0_3 ((ab l0_1 x24_2).f1.f0) t495 _ (kc_ HR0_0 HB) HC0_0.out (kc_ HR0_1 HB) HC0_1.out (kc_ HR0_2 HB) HC0_2.out A59.out) ?_; intro w67 hb; replace BK481 := bb_ BK481 hb; replace BK489 := bb_ BK489 hb; replace HB := bs_ HB hb; (try clear hb)
          refine hK.out _ _ ⟨bc_ BK489 0, bc_ BK489 1, bc_ BK489 2, bc_ BK481 0, bc_ BK481 1, bc_ BK481 2, bc_ BK481 3⟩ (fun hHeld => ?_); clear hK K; refine nm_ ?_; refine pv_ 38 67 ?_; refine pv_ 39 68 ?_; refine dn_ HT_ ?_; have H := HC_.out; clear HC_; by_cases c60 : t495 = x24_2
          ·rw [if_pos c60] at H; have c60b0 := db c60; have c60b1 := dd c60; clear c60; have H' := am_ H; clear H; (first | rw [c60b0] | (simp only [cP, dz]; rw [c60b0]) | skip)
           try go_wp2
           go_roundg k2
           case measure => have := HJ1.out; have := HK2.out; omega
           case rel => exact ⟨(wrap64 (x24_2 + 1)), u1_, H', ⟨by have := HJ1.out; have := HK2.out; omega⟩, ⟨u42_⟩, ⟨bw_ HB⟩⟩
          ·rw [if_neg c60] at H; have c60b0 := da c60; have c60b1 := dc c60; obtain rfl := si_ H; (first | rw [c60b0] | (simp only [cP, dz]; rw [c60b0]) | skip)
           try go_wp2
           go_ret
           exact ⟨u0_, bw_ HB⟩
      ·rw [if_neg c18] at H; have c18b0 := decide_eq_false c18; clear c18; obtain ⟨t484, A86, H⟩ := bi_ H; obtain ⟨t487, A87, H⟩ := bi_ H; obtain rfl := si_ H; try go_wp2
       replace BK481 := am_ (ac BK481.out); replace HB := am_ (bg HB.out); refine cT (n := 9) (S := fun w' => w'.cell? ⟨gb481, 0, none⟩ = some (.slice A0_0 l0_0.length c0_0) ∧ w'.cell? ⟨gb481, 1, none⟩ = some (.slice A0_1 l0_1.length c0_1) ∧ w'.cell? ⟨gb481, 2, none⟩ = some (.slice A0_2 l0_2.length c0_2) ∧ w'.cell? ⟨gb481, 3, none⟩ = some (.int .i64 a0_3)) (ds := []) (bm_ 9 0) ch rfl rfl ⟨bc_ BK481 0, bc_ BK481 1, bc_ BK481 2, bc_ BK481 3⟩ (fun hHeld => ?_); refine bO al.tab9 al.bits9 (fun HT_ HW_ => ?_); generalize wr.drew = w88 at BK481 HB hHeld ⊢; refine pv_ 0 70 ?_; refine pv_ 2 72 ?_; refine pv_ 4 74 ?_; refine tv_ 1 71 ?_; refine tv_ 3 73 ?_; refine tv_ 5 75 ?_; refine ov_ 6 76 (fun K hK => ?_); refine go_ Tryz.func68 (cJ.calls k2 _ _ l0_0 _ _ l0_1 t484 _ ?side1 (kc_ HR0_0 HB) HC0_0.out (kc_ HR0_1 HB) HC0_1.out A86.out) ?_; (case side1 => exact i1)
       rintro e w89 ⟨v485, rfl, ho0, hb⟩; refine ⟨_, rfl, ?_⟩; have HO486 := am_ (Kd.R_lower ho0 (aq (bw_ HB))); replace BK481 := bb_ BK481 hb; replace HB := bs_ HB hb; (try clear hb)
       (try clear ho0)
       obtain ⟨Ao90, co90, eo90⟩ := Kd.R_slice HO486.out; (first | subst eo90 | (injection eo90 with f1_ f2_ f3_; have f4_ := f1_.symm; have f5_ := f3_.symm; clear f1_ f2_ f3_; subst f4_; subst f5_))
       refine hK.out _ _ ⟨bc_ BK481 0, bc_ BK481 1, bc_ BK481 2, bc_ BK481 3⟩ (fun hHeld => ?_); clear hK K; refine nm_ ?_; refine ov_ 7 77 (fun K hK => ?_); refine go_ Tryz.func67 (bS.calls k2 _ _ l0_2 _ _ t484 t487 _ (kc_ HR0_2 HB) HC0_2.out ?side3 ?side4 A87.out) ?_; (case side3 => repeat (first | exact (Kd.R_reads' HO486.out).2.2 | (with_reducible refine Kd.C_alloc ?_ _) | (with_reducible refine Kd.C_drewN ?_ _) | (with_reducible refine Kd.C_drew ?_)))
       (case side4 => exact (Kd.R_reads' HO486.out).2.1)
       rintro e w91 ⟨rfl, hb⟩; refine ⟨_, rfl, ?_⟩; replace HO486 := am_ (Kd.R_below (by (with_reducible repeat (first | apply Kd.R_alloc | apply Kd.R_drewN | apply Kd.R_drew)); exact HO486.out) hb); replace BK481 := bb_ BK481 hb; replace HB := bs_ HB hb; (try clear hb)
       refine hK.out _ _ ⟨bc_ BK481 0, bc_ BK481 1, bc_ BK481 2, bc_ BK481 3⟩ (fun hHeld => ?_); clear hK K; refine nm_ ?_; refine pv_ 8 2 ?_; refine dn_ HT_ ?_; try go_wp2
       go_ret
       exact ⟨u0_, bw_ HB⟩
   ·replace H := ht_ H; obtain rfl := si_ H; go_wp2; go_ret
    exact ⟨u0_, bw_ HB⟩
def dZ.f (a0_0 : ByteArray) (a0_1 : Int) (a0_2 : Int) (a1_0 : ByteArray) (a1_1 : Int) (a1_2 : Int) : Option (Bool) := if a0_0.toList = a1_0.toList then (if a0_1 = a1_1 then (if a0_2 = a1_2 then (some true) else (some false)) else (some false)) else (some false)
theorem dZ.calls (a0_0 : ByteArray) (a0_1 : Int) (a0_2 : Int) (a1_0 : ByteArray) (a1_1 : Int) (a1_2 : Int) (r : Bool) (w : World) (h : dZ.f a0_0 a0_1 a0_2 a1_0 a1_1 a1_2 = some r) :
  Calls Tryz.prog 121 #[.agg #[.string a0_0, .int .i64 a0_1, .int .i64 a0_2], .agg #[.string a1_0, .int .i64 a1_1, .int .i64 a1_2]] w fun e w' => e = .returned (.bool r) ∧ Below w.heap.size w w' := by
 have hu92 := Tryz.underlying92; have HB := am_ (Below.refl w.heap.size w); have H := h; clear h; unfold dZ.f at H
 by_cases c3 : a0_0.toList = a1_0.toList
 ·rw [if_pos c3] at H; have c3b0 := db c3; have c3b1 := dd c3; clear c3; by_cases c4 : a0_1 = a1_1
  ·rw [if_pos c4] at H; have c4b0 := db c4; have c4b1 := dd c4; clear c4; by_cases c5 : a0_2 = a1_2
   ·rw [if_pos c5] at H; have c5b0 := db c5; have c5b1 := dd c5; clear c5; obtain rfl := si_ H; go_enter Tryz.func121, Tryz.ntmps121
    go_wp2_with (first | (with_reducible refine gt_ 2 ?_; refine bx_ 2 #[.string a0_0, .int .i64 a0_1, .int .i64 a0_2] 92 ?_; intro gb496 hg w6 hbox hb; have BK496 := am_ (hbox); have GE496 := gw_ HB hg; replace HB := bs_ HB hb; clear hb hbox hg) | (with_reducible refine gt_ 3 ?_; refine bx_ 3 #[.string a1_0, .int .i64 a1_1, .int .i64 a1_2] 92 ?_; intro gb497 hg w7 hbox hb; have BK497 := am_ (hbox); have GE497 := gw_ HB hg; replace HB := bs_ HB hb; have NB496_497 := nl_ BK496 hg; have NB497_496 := ng_ BK496 hg; replace BK496 := bb_ BK496 hb; clear hb hbox hg; have hnb8 := NB496_497.out; have hnc8 := NB497_496.out; obtain ⟨hcz9_0, hcz9_1, hcz9_2, hfz9_0, hfz9_1, hfz9_2⟩ := bX BK496.out; obtain ⟨hcz10_0, hcz10_1, hcz10_2, hfz10_0, hfz10_1, hfz10_2⟩ := bX BK497.out))
    go_ret
    exact ⟨u0_, bw_ HB⟩
   ·rw [if_neg c5] at H; have c5b0 := da c5; have c5b1 := dc c5; obtain rfl := si_ H; go_enter Tryz.func121, Tryz.ntmps121
    go_wp2_with (first | (with_reducible refine gt_ 2 ?_; refine bx_ 2 #[.string a0_0, .int .i64 a0_1, .int .i64 a0_2] 92 ?_; intro gb496 hg w11 hbox hb; have BK496 := am_ (hbox); have GE496 := gw_ HB hg; replace HB := bs_ HB hb; clear hb hbox hg) | (with_reducible refine gt_ 3 ?_; refine bx_ 3 #[.string a1_0, .int .i64 a1_1, .int .i64 a1_2] 92 ?_; intro gb497 hg w12 hbox hb; have BK497 := am_ (hbox); have GE497 := gw_ HB hg; replace HB := bs_ HB hb; have NB496_497 := nl_ BK496 hg; have NB497_496 := ng_ BK496 hg; replace BK496 := bb_ BK496 hb; clear hb hbox hg; have hnb13 := NB496_497.out; have hnc13 := NB497_496.out; obtain ⟨hcz14_0, hcz14_1, hcz14_2, hfz14_0, hfz14_1, hfz14_2⟩ := bX BK496.out; obtain ⟨hcz15_0, hcz15_1, hcz15_2, hfz15_0, hfz15_1, hfz15_2⟩ := bX BK497.out))
    go_ret
    exact ⟨u0_, bw_ HB⟩
  ·rw [if_neg c4] at H; have c4b0 := da c4; have c4b1 := dc c4; obtain rfl := si_ H; go_enter Tryz.func121, Tryz.ntmps121
   go_wp2_with (first | (with_reducible refine gt_ 2 ?_; refine bx_ 2 #[.string a0_0, .int .i64 a0_1, .int .i64 a0_2] 92 ?_; intro gb496 hg w16 hbox hb; have BK496 := am_ (hbox); have GE496 := gw_ HB hg; replace HB := bs_ HB hb; clear hb hbox hg) | (with_reducible refine gt_ 3 ?_; refine bx_ 3 #[.string a1_0, .int .i64 a1_1, .int .i64 a1_2] 92 ?_; intro gb497 hg w17 hbox hb; have BK497 := am_ (hbox); have GE497 := gw_ HB hg; replace HB := bs_ HB hb; have NB496_497 := nl_ BK496 hg; have NB497_496 := ng_ BK496 hg; replace BK496 := bb_ BK496 hb; clear hb hbox hg; have hnb18 := NB496_497.out; have hnc18 := NB497_496.out; obtain ⟨hcz19_0, hcz19_1, hcz19_2, hfz19_0, hfz19_1, hfz19_2⟩ := bX BK496.out; obtain ⟨hcz20_0, hcz20_1, hcz20_2, hfz20_0, hfz20_1, hfz20_2⟩ := bX BK497.out))
   go_ret
   exact ⟨u0_, bw_ HB⟩
 ·rw [if_neg c3] at H; have c3b0 := da c3; have c3b1 := dc c3; obtain rfl := si_ H; go_enter Tryz.func121, Tryz.ntmps121
  go_wp2_with (first | (with_reducible refine gt_ 2 ?_; refine bx_ 2 #[.string a0_0, .int .i64 a0_1, .int .i64 a0_2] 92 ?_; intro gb496 hg w21 hbox hb; have BK496 := am_ (hbox); have GE496 := gw_ HB hg; replace HB := bs_ HB hb; clear hb hbox hg) | (with_reducible refine gt_ 3 ?_; refine bx_ 3 #[.string a1_0, .int .i64 a1_1, .int .i64 a1_2] 92 ?_; intro gb497 hg w22 hbox hb; have BK497 := am_ (hbox); have GE497 := gw_ HB hg; replace HB := bs_ HB hb; have NB496_497 := nl_ BK496 hg; have NB497_496 := ng_ BK496 hg; replace BK496 := bb_ BK496 hb; clear hb hbox hg; have hnb23 := NB496_497.out; have hnc23 := NB497_496.out; obtain ⟨hcz24_0, hcz24_1, hcz24_2, hfz24_0, hfz24_1, hfz24_2⟩ := bX BK496.out; obtain ⟨hcz25_0, hcz25_1, hcz25_2, hfz25_0, hfz25_1, hfz25_2⟩ := bX BK497.out))
  go_ret
  exact ⟨u0_, bw_ HB⟩
def aC.l0 : Nat → List (S92) → List (S92) → Int → Option (Bool)
 | 0, _, _, _ => none
 | k + 1, x0, x1, x5 => if x5 < (x0.length : Int) then (if 0 ≤ x5 then (if x5 < (x1.length : Int) then ((dZ.f ((ar x0 x5).f0) ((ar x0 x5).f1) ((ar x0 x5).f2) ((ar x1 x5).f0) ((ar x1 x5).f1) ((ar x1 x5).f2)).bind fun t500 => (if t500 = true then (aC.l0 k x0 x1 (wrap64 (x5 + 1))) else (some false))) else (none)) else (none)) else (some true)
def aC.f (k : Nat) (l0 : List (S92)) (l1 : List (S92)) : Option (Bool) := if (l0.length : Int) = (l1.length : Int) then (aC.l0 k l0 l1 0) else (some false)
theorem aC.mono_l : ∀ k, M3 aC.l0 k
 | 0 => ⟨cU⟩
 | k + 1 => by have _ := aC.mono_l k; exact ⟨by intros; unfold aC.l0; exact mo_⟩
instance aC.mono (k : Nat) : M2 aC.f k := ⟨by have _ := aC.mono_l k; intros; unfold aC.f; exact mo_⟩
def aC.T6 : Bool × List (List Nat × List Nat) := (true, [([], []), ([], []), ([0, 1], [0, 1]), ([2], [2]), ([], []), ([], []), ([4, 5], [4, 5]), ([6], [6]), ([3, 7], [3, 7]), ([8], [8])])
def aC.B6 : List Nat := [0, 0, 3, 7, 0, 0, 48, 112, 255, 511]
theorem aC.tab6 : dM .any (fS Tryz.f70 6) = aC.T6 := by kernel_rfl
theorem aC.bits6 : dt aC.T6.2 aC.B6 = true := by kernel_rfl
theorem aC.calls (k : Nat) (A0 : Option Addr) (c0 : Nat) (l0 : List (S92)) (A1 : Option Addr) (c1 : Nat) (l1 : List (S92)) (r : Bool) (w : World) (hr0 : Kd.C k92 w A0 l0.length l0) (hc0 : l0.length ≤ c0) (hr1 : Kd.C k92 w A1 l1.length l1) (hc1 : l1.length ≤ c1) (h : aC.f k l0 l1 = some r) :
  Calls Tryz.prog 70 #[.slice A0 l0.length c0, .slice A1 l1.length c1] w fun e w' => e = .returned (.bool r) ∧ Below w.heap.size w w' := by
 have hu92 := Tryz.underlying92; have HR0 := am_ hr0; have HC0 := am_ hc0; clear hr0 hc0; have HR1 := am_ hr1; have HC1 := am_ hc1; clear hr1 hc1; have HB := am_ (Below.refl w.heap.size w); have H := h; clear h; unfold aC.f at H
 by_cases c3 : (l0.length : Int) = (l1.length : Int)
 ·rw [if_pos c3] at H; have c3b0 := db c3; have c3b1 := dd c3; have c3b2 : (l0.length == l1.length) = true := by first | simpa using c3 | (simp at c3 ⊢; omega)
  clear c3; have H' := am_ H; clear H; go_enter Tryz.func70, Tryz.ntmps70
  go_wp2; go_loopg [5] k (fun kq v5 w' => ∃ (x5_1 : Int), v5 = .int .i64 x5_1 ∧ aa (aC.l0 kq l0 l1 x5_1 = some r) ∧ aa (kq ≤ k) ∧ aa (Below w.heap.size w w'))
  case atStart => exact ⟨(0), u1_, H', ⟨Nat.le_refl _⟩, ⟨bw_ HB⟩⟩
  case round =>
   clear H'; try clear c1
   try clear c3
   try clear c3b0
   try clear c3b1
   try clear c3b2
   obtain ⟨x5_1, rfl, HA, HK1, HB⟩ := hrel; cases gk with
   | zero => exact absurd HA.out (by simp [aC.l0])
   | succ k1 =>
    have H := HA.out; clear HA; simp only [aC.l0] at H; by_cases c4 : x5_1 < (l0.length : Int)
    ·rw [if_pos c4] at H; have c4b0 := decide_eq_true c4; clear c4; obtain ⟨c5b0, H⟩ := gd_ H; obtain ⟨c6b0, H⟩ := gd_ H; obtain ⟨t500, A7, H⟩ := bi_ H; have HC_ := am_ H; clear H; try go_wp2
     replace HB := am_ (bg HB.out); obtain ⟨ad498, e498, hx498_0, hx498_1, hx498_2⟩ := fJ HR0.out x5_1 od_ od_; have hw498_2 := hx498_2; have hw498_1 := hx498_1; have hw498_0 := hx498_0; cases e498; replace hx498_0 := cb_ HB hx498_0; replace hx498_1 := cb_ HB hx498_1; replace hx498_2 := cb_ HB hx498_2; obtain ⟨p498, q498⟩ := pt_ x5_1 l0.length; obtain ⟨ad499, e499, hx499_0, hx499_1, hx499_2⟩ := fJ HR1.out x5_1 od_ od_; have hw499_2 := hx499_2; have hw499_1 := hx499_1; have hw499_0 := hx499_0; cases e499; replace hx499_0 := cb_ HB hx499_0; replace hx499_1 := cb_ HB hx499_1; replace hx499_2 := cb_ HB hx499_2; obtain ⟨p499, q499⟩ := pt_ x5_1 l1.length; refine cT (n := 10) (S := fun w' => w'.cell? (ad498.add ((x5_1).toNat * 3)) = some (.string ((ar l0 x5_1).f0)) ∧ w'.cell? ⟨(ad498.add ((x5_1).toNat * 3)).block, (ad498.add ((x5_1).toNat * 3)).off + 1, none⟩ = some (.int .i64 ((ar l0 x5_1).f1)) ∧ w'.cell? ⟨(ad498.add ((x5_1).toNat * 3)).block, (ad498.add ((x5_1).toNat * 3)).off + 2, none⟩ = some (.int .i64 ((ar l0 x5_1).f2)) ∧ w'.cell? (ad499.add ((x5_1).toNat * 3)) = some (.string ((ar l1 x5_1).f0)) ∧ w'.cell? ⟨(ad499.add ((x5_1).toNat * 3)).block, (ad499.add ((x5_1).toNat * 3)).off + 1, none⟩ = some (.int .i64 ((ar l1 x5_1).f1)) ∧ w'.cell? ⟨(ad499.add ((x5_1).toNat * 3)).block, (ad499.add ((x5_1).toNat * 3)).off + 2, none⟩ = some (.int .i64 ((ar l1 x5_1).f2))) (ds := []) (bm_ 10 0) ch rfl rfl ⟨(cc_ HB hw498_0), (cc_ HB hw498_1), (cc_ HB hw498_2), (cc_ HB hw499_0), (cc_ HB hw499_1), (cc_ HB hw499_2)⟩ (fun hHeld => ?_); refine bO aC.tab6 aC.bits6 (fun HT_ HW_ => ?_); generalize wr.drew = w11 at HB hx498_0 hx498_1 hx498_2 hx499_0 hx499_1 hx499_2 hHeld ⊢; refine pv_ 0 17 ?_; refine pv_ 1 18 ?_; refine pv_ 2 19 ?_; refine pv_ 4 21 ?_; refine pv_ 5 22 ?_; refine pv_ 6 23 ?_; refine tv_ 3 20 ?_; refine tv_ 7 24 ?_; refine ov_ 8 25 (fun K hK => ?_); refine oB_ Tryz.func121 (dZ.calls ((ar l0 x5_1).f0) ((ar l0 x5_1).f1) ((ar l0 x5_1).f2) ((ar l1 x5_1).f0) ((ar l1 x5_1).f1) ((ar l1 x5_1).f2) t500 _ A7.out) ?_; intro w12 hb; replace HB := bs_ HB hb; (try clear hb)
     refine hK.out _ _ ⟨(cc_ HB hw498_0), (cc_ HB hw498_1), (cc_ HB hw498_2), (cc_ HB hw499_0), (cc_ HB hw499_1), (cc_ HB hw499_2)⟩ (fun hHeld => ?_); clear hK K; refine nm_ ?_; refine pv_ 9 26 ?_; refine dn_ HT_ ?_; have H := HC_.out; clear HC_; cases t500
     ·replace H := hf_ H; obtain rfl := si_ H; try go_wp2
      go_ret
      exact ⟨u0_, bw_ HB⟩
     ·replace H := ht_ H; have H' := am_ H; clear H; try go_wp2
      go_roundg k1
      case measure => have := HK1.out; omega
      case rel => exact ⟨(wrap64 (x5_1 + 1)), u1_, H', ⟨du⟩, ⟨bw_ HB⟩⟩
    ·rw [if_neg c4] at H; have c4b0 := decide_eq_false c4; clear c4; obtain rfl := si_ H; go_wp2; go_ret
     exact ⟨u0_, bw_ HB⟩
 ·rw [if_neg c3] at H; have c3b0 := da c3; have c3b1 := dc c3; have c3b2 : (l0.length == l1.length) = false := by first | simpa using c3 | (simp at c3 ⊢; omega)
  obtain rfl := si_ H; go_enter Tryz.func70, Tryz.ntmps70
  go_wp2; go_ret
  exact ⟨u0_, bw_ HB⟩
def eh.f (a0_0 : ByteArray) (a0_1 : ByteArray) (a1_0 : ByteArray) (a1_1 : ByteArray) : Option (Bool) := if a0_0.toList = a1_0.toList then (if a0_1.toList = a1_1.toList then (some true) else (some false)) else (some false)
theorem eh.calls (a0_0 : ByteArray) (a0_1 : ByteArray) (a1_0 : ByteArray) (a1_1 : ByteArray) (r : Bool) (w : World) (h : eh.f a0_0 a0_1 a1_0 a1_1 = some r) :
  Calls Tryz.prog 124 #[.agg #[.string a0_0, .string a0_1], .agg #[.string a1_0, .string a1_1]] w fun e w' => e = .returned (.bool r) ∧ Below w.heap.size w w' := by
 have hu86 := Tryz.underlying86; have HB := am_ (Below.refl w.heap.size w); have H := h; clear h; unfold eh.f at H
 by_cases c3 : a0_0.toList = a1_0.toList
 ·rw [if_pos c3] at H; have c3b0 := db c3; have c3b1 := dd c3; clear c3; by_cases c4 : a0_1.toList = a1_1.toList
  ·rw [if_pos c4] at H; have c4b0 := db c4; have c4b1 := dd c4; clear c4; obtain rfl := si_ H; go_enter Tryz.func124, Tryz.ntmps124
   go_wp2_with (first | (with_reducible refine gt_ 2 ?_; refine bx_ 2 #[.string a0_0, .string a0_1] 86 ?_; intro gb501 hg w5 hbox hb; have BK501 := am_ (hbox); have GE501 := gw_ HB hg; replace HB := bs_ HB hb; clear hb hbox hg) | (with_reducible refine gt_ 3 ?_; refine bx_ 3 #[.string a1_0, .string a1_1] 86 ?_; intro gb502 hg w6 hbox hb; have BK502 := am_ (hbox); have GE502 := gw_ HB hg; replace HB := bs_ HB hb; have NB501_502 := nl_ BK501 hg; have NB502_501 := ng_ BK501 hg; replace BK501 := bb_ BK501 hb; clear hb hbox hg; have hnb7 := NB501_502.out; have hnc7 := NB502_501.out; obtain ⟨hcz8_0, hcz8_1, hfz8_0, hfz8_1⟩ := bW BK501.out; obtain ⟨hcz9_0, hcz9_1, hfz9_0, hfz9_1⟩ := bW BK502.out))
   go_ret
   exact ⟨u0_, bw_ HB⟩
  ·rw [if_neg c4] at H; have c4b0 := da c4; have c4b1 := dc c4; obtain rfl := si_ H; go_enter Tryz.func124, Tryz.ntmps124
   go_wp2_with (first | (with_reducible refine gt_ 2 ?_; refine bx_ 2 #[.string a0_0, .string a0_1] 86 ?_; intro gb501 hg w10 hbox hb; have BK501 := am_ (hbox); have GE501 := gw_ HB hg; replace HB := bs_ HB hb; clear hb hbox hg) | (with_reducible refine gt_ 3 ?_; refine bx_ 3 #[.string a1_0, .string a1_1] 86 ?_; intro gb502 hg w11 hbox hb; have BK502 := am_ (hbox); have GE502 := gw_ HB hg; replace HB := bs_ HB hb; have NB501_502 := nl_ BK501 hg; have NB502_501 := ng_ BK501 hg; replace BK501 := bb_ BK501 hb; clear hb hbox hg; have hnb12 := NB501_502.out; have hnc12 := NB502_501.out; obtain ⟨hcz13_0, hcz13_1, hfz13_0, hfz13_1⟩ := bW BK501.out; obtain ⟨hcz14_0, hcz14_1, hfz14_0, hfz14_1⟩ := bW BK502.out))
   go_ret
   exact ⟨u0_, bw_ HB⟩
 ·rw [if_neg c3] at H; have c3b0 := da c3; have c3b1 := dc c3; obtain rfl := si_ H; go_enter Tryz.func124, Tryz.ntmps124
  go_wp2_with (first | (with_reducible refine gt_ 2 ?_; refine bx_ 2 #[.string a0_0, .string a0_1] 86 ?_; intro gb501 hg w15 hbox hb; have BK501 := am_ (hbox); have GE501 := gw_ HB hg; replace HB := bs_ HB hb; clear hb hbox hg) | (with_reducible refine gt_ 3 ?_; refine bx_ 3 #[.string a1_0, .string a1_1] 86 ?_; intro gb502 hg w16 hbox hb; have BK502 := am_ (hbox); have GE502 := gw_ HB hg; replace HB := bs_ HB hb; have NB501_502 := nl_ BK501 hg; have NB502_501 := ng_ BK501 hg; replace BK501 := bb_ BK501 hb; clear hb hbox hg; have hnb17 := NB501_502.out; have hnc17 := NB502_501.out; obtain ⟨hcz18_0, hcz18_1, hfz18_0, hfz18_1⟩ := bW BK501.out; obtain ⟨hcz19_0, hcz19_1, hfz19_0, hfz19_1⟩ := bW BK502.out))
  go_ret
  exact ⟨u0_, bw_ HB⟩
def aN.l0 : Nat → List (S86) → List (S86) → Int → Option (Bool)
 | 0, _, _, _ => none
 | k + 1, x0, x1, x5 => if x5 < (x0.length : Int) then (if 0 ≤ x5 then (if x5 < (x1.length : Int) then ((eh.f ((ak x0 x5).f0) ((ak x0 x5).f1) ((ak x1 x5).f0) ((ak x1 x5).f1)).bind fun t505 => (if t505 = true then (aN.l0 k x0 x1 (wrap64 (x5 + 1))) else (some false))) else (none)) else (none)) else (some true)
def aN.f (k : Nat) (l0 : List (S86)) (l1 : List (S86)) : Option (Bool) := if (l0.length : Int) = (l1.length : Int) then (aN.l0 k l0 l1 0) else (some false)
theorem aN.mono_l : ∀ k, M3 aN.l0 k
 | 0 => ⟨cU⟩
 | k + 1 => by have _ := aN.mono_l k; exact ⟨by intros; unfold aN.l0; exact mo_⟩
instance aN.mono (k : Nat) : M2 aN.f k := ⟨by have _ := aN.mono_l k; intros; unfold aN.f; exact mo_⟩
def aN.T6 : Bool × List (List Nat × List Nat) := (true, [([], []), ([], []), ([0, 1], [0, 1]), ([2], [2]), ([], []), ([], []), ([4, 5], [4, 5]), ([6], [6]), ([3, 7], [3, 7]), ([8], [8])])
def aN.B6 : List Nat := [0, 0, 3, 7, 0, 0, 48, 112, 255, 511]
theorem aN.tab6 : dM .any (fS Tryz.f74 6) = aN.T6 := by kernel_rfl
theorem aN.bits6 : dt aN.T6.2 aN.B6 = true := by kernel_rfl
theorem aN.calls (k : Nat) (A0 : Option Addr) (c0 : Nat) (l0 : List (S86)) (A1 : Option Addr) (c1 : Nat) (l1 : List (S86)) (r : Bool) (w : World) (hr0 : Kd.C k86 w A0 l0.length l0) (hc0 : l0.length ≤ c0) (hr1 : Kd.C k86 w A1 l1.length l1) (hc1 : l1.length ≤ c1) (h : aN.f k l0 l1 = some r) :
  Calls Tryz.prog 74 #[.slice A0 l0.length c0, .slice A1 l1.length c1] w fun e w' => e = .returned (.bool r) ∧ Below w.heap.size w w' := by
 have hu86 := Tryz.underlying86; have HR0 := am_ hr0; have HC0 := am_ hc0; clear hr0 hc0; have HR1 := am_ hr1; have HC1 := am_ hc1; clear hr1 hc1; have HB := am_ (Below.refl w.heap.size w); have H := h; clear h; unfold aN.f at H
 by_cases c3 : (l0.length : Int) = (l1.length : Int)
 ·rw [if_pos c3] at H; have c3b0 := db c3; have c3b1 := dd c3; have c3b2 : (l0.length == l1.length) = true := by first | simpa using c3 | (simp at c3 ⊢; omega)
  clear c3; have H' := am_ H; clear H; go_enter Tryz.func74, Tryz.ntmps74
  go_wp2; go_loopg [5] k (fun kq v5 w' => ∃ (x5_1 : Int), v5 = .int .i64 x5_1 ∧ aa (aN.l0 kq l0 l1 x5_1 = some r) ∧ aa (kq ≤ k) ∧ aa (Below w.heap.size w w'))
  case atStart => exact ⟨(0), u1_, H', ⟨Nat.le_refl _⟩, ⟨bw_ HB⟩⟩
  case round =>
   clear H'; try clear c1
   try clear c3
   try clear c3b0
   try clear c3b1
   try clear c3b2
   obtain ⟨x5_1, rfl, HA, HK1, HB⟩ := hrel; cases gk with
   | zero => exact absurd HA.out (by simp [aN.l0])
   | succ k1 =>
    have H := HA.out; clear HA; simp only [aN.l0] at H; by_cases c4 : x5_1 < (l0.length : Int)
    ·rw [if_pos c4] at H; have c4b0 := decide_eq_true c4; clear c4; obtain ⟨c5b0, H⟩ := gd_ H; obtain ⟨c6b0, H⟩ := gd_ H; obtain ⟨t505, A7, H⟩ := bi_ H; have HC_ := am_ H; clear H; try go_wp2
     replace HB := am_ (bg HB.out); obtain ⟨ad503, e503, hx503_0, hx503_1⟩ := cz HR0.out x5_1 od_ od_; have hw503_1 := hx503_1; have hw503_0 := hx503_0; cases e503; replace hx503_0 := cb_ HB hx503_0; replace hx503_1 := cb_ HB hx503_1; obtain ⟨p503, q503⟩ := pt_ x5_1 l0.length; obtain ⟨ad504, e504, hx504_0, hx504_1⟩ := cz HR1.out x5_1 od_ od_; have hw504_1 := hx504_1; have hw504_0 := hx504_0; cases e504; replace hx504_0 := cb_ HB hx504_0; replace hx504_1 := cb_ HB hx504_1; obtain ⟨p504, q504⟩ := pt_ x5_1 l1.length; refine cT (n := 10) (S := fun w' => w'.cell? (ad503.add ((x5_1).toNat * 2)) = some (.string ((ak l0 x5_1).f0)) ∧ w'.cell? ⟨(ad503.add ((x5_1).toNat * 2)).block, (ad503.add ((x5_1).toNat * 2)).off + 1, none⟩ = some (.string ((ak l0 x5_1).f1)) ∧ w'.cell? (ad504.add ((x5_1).toNat * 2)) = some (.string ((ak l1 x5_1).f0)) ∧ w'.cell? ⟨(ad504.add ((x5_1).toNat * 2)).block, (ad504.add ((x5_1).toNat * 2)).off + 1, none⟩ = some (.string ((ak l1 x5_1).f1))) (ds := []) (bm_ 10 0) ch rfl rfl ⟨(cc_ HB hw503_0), (cc_ HB hw503_1), (cc_ HB hw504_0), (cc_ HB hw504_1)⟩ (fun hHeld => ?_); refine bO aN.tab6 aN.bits6 (fun HT_ HW_ => ?_); generalize wr.drew = w11 at HB hx503_0 hx503_1 hx504_0 hx504_1 hHeld ⊢; refine pv_ 0 17 ?_; refine pv_ 1 18 ?_; refine pv_ 2 19 ?_; refine pv_ 4 21 ?_; refine pv_ 5 22 ?_; refine pv_ 6 23 ?_; refine tv_ 3 20 ?_; refine tv_ 7 24 ?_; refine ov_ 8 25 (fun K hK => ?_); refine oB_ Tryz.func124 (eh.calls ((ak l0 x5_1).f0) ((ak l0 x5_1).f1) ((ak l1 x5_1).f0) ((ak l1 x5_1).f1) t505 _ A7.out) ?_; intro w12 hb; replace HB := bs_ HB hb; (try clear hb)
     refine hK.out _ _ ⟨(cc_ HB hw503_0), (cc_ HB hw503_1), (cc_ HB hw504_0), (cc_ HB hw504_1)⟩ (fun hHeld => ?_); clear hK K; refine nm_ ?_; refine pv_ 9 26 ?_; refine dn_ HT_ ?_; have H := HC_.out; clear HC_; cases t505
     ·replace H := hf_ H; obtain rfl := si_ H; try go_wp2
      go_ret
      exact ⟨u0_, bw_ HB⟩
     ·replace H := ht_ H; have H' := am_ H; clear H; try go_wp2
      go_roundg k1
      case measure => have := HK1.out; omega
      case rel => exact ⟨(wrap64 (x5_1 + 1)), u1_, H', ⟨du⟩, ⟨bw_ HB⟩⟩
    ·rw [if_neg c4] at H; have c4b0 := decide_eq_false c4; clear c4; obtain rfl := si_ H; go_wp2; go_ret
     exact ⟨u0_, bw_ HB⟩
 ·rw [if_neg c3] at H; have c3b0 := da c3; have c3b1 := dc c3; have c3b2 : (l0.length == l1.length) = false := by first | simpa using c3 | (simp at c3 ⊢; omega)
  obtain rfl := si_ H; go_enter Tryz.func74, Tryz.ntmps74
  go_wp2; go_ret
  exact ⟨u0_, bw_ HB⟩
def dq.f (k : Nat) (a0_0 : ByteArray) (l0_1 : List (S86)) (a1_0 : ByteArray) (l1_1 : List (S86)) : Option (Bool) := if a0_0.toList = a1_0.toList then ((aN.f k l0_1 l1_1).bind fun t508 => (if t508 = true then (some true) else (some false))) else (some false)
instance dq.mono (k : Nat) : M4 dq.f k := ⟨by intros; unfold dq.f; exact mo_⟩
theorem dq.calls (k : Nat) (a0_0 : ByteArray) (A0_1 : Option Addr) (c0_1 : Nat) (l0_1 : List (S86)) (a1_0 : ByteArray) (A1_1 : Option Addr) (c1_1 : Nat) (l1_1 : List (S86)) (r : Bool) (w : World) (hr0_1 : Kd.C k86 w A0_1 l0_1.length l0_1) (hc0_1 : l0_1.length ≤ c0_1) (hr1_1 : Kd.C k86 w A1_1 l1_1.length l1_1) (hc1_1 : l1_1.length ≤ c1_1) (h : dq.f k a0_0 l0_1 a1_0 l1_1 = some r) :
  Calls Tryz.prog 29 #[.agg #[.string a0_0, .slice A0_1 l0_1.length c0_1], .agg #[.string a1_0, .slice A1_1 l1_1.length c1_1]] w fun e w' => e = .returned (.bool r) ∧ Below w.heap.size w w' := by
 have hu44 := Tryz.underlying44; have HR0_1 := am_ hr0_1; have HC0_1 := am_ hc0_1; clear hr0_1 hc0_1; have HR1_1 := am_ hr1_1; have HC1_1 := am_ hc1_1; clear hr1_1 hc1_1; have HB := am_ (Below.refl w.heap.size w); have H := h; clear h; unfold dq.f at H
 by_cases c3 : a0_0.toList = a1_0.toList
 ·rw [if_pos c3] at H; have c3b0 := db c3; have c3b1 := dd c3; clear c3; obtain ⟨t508, A4, H⟩ := bi_ H; cases t508
  ·replace H := hf_ H; obtain rfl := si_ H; go_enter Tryz.func29, Tryz.ntmps29
   go_wp2_with (first | (with_reducible refine gt_ 2 ?_; refine bx_ 2 #[.string a0_0, .slice A0_1 l0_1.length c0_1] 44 ?_; intro gb506 hg w12 hbox hb; have BK506 := am_ (hbox); have GE506 := gw_ HB hg; replace HB := bs_ HB hb; clear hb hbox hg) | (with_reducible refine gt_ 3 ?_; refine bx_ 3 #[.string a1_0, .slice A1_1 l1_1.length c1_1] 44 ?_; intro gb507 hg w13 hbox hb; have BK507 := am_ (hbox); have GE507 := gw_ HB hg; replace HB := bs_ HB hb; have NB506_507 := nl_ BK506 hg; have NB507_506 := ng_ BK506 hg; replace BK506 := bb_ BK506 hb; clear hb hbox hg; have hnb14 := NB506_507.out; have hnc14 := NB507_506.out; obtain ⟨hcz15_0, hcz15_1, hfz15_0, hfz15_1⟩ := bW BK506.out; obtain ⟨hcz16_0, hcz16_1, hfz16_0, hfz16_1⟩ := bW BK507.out) | ((with_reducible refine gt_ 14 ?_); refine gB_ 14 Tryz.func74 (aN.calls k _ _ l0_1 _ _ l1_1 false _ (kc_ HR0_1 HB) HC0_1.out (kc_ HR1_1 HB) HC1_1.out A4.out) ?_; intro w17 hb; replace BK506 := bb_ BK506 hb; replace BK507 := bb_ BK507 hb; replace HB := bs_ HB hb; (try clear hb)))
   go_ret
   exact ⟨u0_, bw_ HB⟩
  ·replace H := ht_ H; obtain rfl := si_ H; go_enter Tryz.func29, Tryz.ntmps29
   go_wp2_with (first | (with_reducible refine gt_ 2 ?_; refine bx_ 2 #[.string a0_0, .slice A0_1 l0_1.length c0_1] 44 ?_; intro gb506 hg w6 hbox hb; have BK506 := am_ (hbox); have GE506 := gw_ HB hg; replace HB := bs_ HB hb; clear hb hbox hg) | (with_reducible refine gt_ 3 ?_; refine bx_ 3 #[.string a1_0, .slice A1_1 l1_1.length c1_1] 44 ?_; intro gb507 hg w7 hbox hb; have BK507 := am_ (hbox); have GE507 := gw_ HB hg; replace HB := bs_ HB hb; have NB506_507 := nl_ BK506 hg; have NB507_506 := ng_ BK506 hg; replace BK506 := bb_ BK506 hb; clear hb hbox hg; have hnb8 := NB506_507.out; have hnc8 := NB507_506.out; obtain ⟨hcz9_0, hcz9_1, hfz9_0, hfz9_1⟩ := bW BK506.out; obtain ⟨hcz10_0, hcz10_1, hfz10_0, hfz10_1⟩ := bW BK507.out) | ((with_reducible refine gt_ 14 ?_); refine gB_ 14 Tryz.func74 (aN.calls k _ _ l0_1 _ _ l1_1 true _ (kc_ HR0_1 HB) HC0_1.out (kc_ HR1_1 HB) HC1_1.out A4.out) ?_; intro w11 hb; replace BK506 := bb_ BK506 hb; replace BK507 := bb_ BK507 hb; replace HB := bs_ HB hb; (try clear hb)))
   go_ret
   exact ⟨u0_, bw_ HB⟩
 ·rw [if_neg c3] at H; have c3b0 := da c3; have c3b1 := dc c3; obtain rfl := si_ H; go_enter Tryz.func29, Tryz.ntmps29
  go_wp2_with (first | (with_reducible refine gt_ 2 ?_; refine bx_ 2 #[.string a0_0, .slice A0_1 l0_1.length c0_1] 44 ?_; intro gb506 hg w18 hbox hb; have BK506 := am_ (hbox); have GE506 := gw_ HB hg; replace HB := bs_ HB hb; clear hb hbox hg) | (with_reducible refine gt_ 3 ?_; refine bx_ 3 #[.string a1_0, .slice A1_1 l1_1.length c1_1] 44 ?_; intro gb507 hg w19 hbox hb; have BK507 := am_ (hbox); have GE507 := gw_ HB hg; replace HB := bs_ HB hb; have NB506_507 := nl_ BK506 hg; have NB507_506 := ng_ BK506 hg; replace BK506 := bb_ BK506 hb; clear hb hbox hg; have hnb20 := NB506_507.out; have hnc20 := NB507_506.out; obtain ⟨hcz21_0, hcz21_1, hfz21_0, hfz21_1⟩ := bW BK506.out; obtain ⟨hcz22_0, hcz22_1, hfz22_0, hfz22_1⟩ := bW BK507.out))
  go_ret
  exact ⟨u0_, bw_ HB⟩
def dL.f (k : Nat) (a0_0 : Int) (a0_1 : ByteArray) (l0_2 : List (S86)) (a1_0 : Int) (a1_1 : ByteArray) (l1_2 : List (S86)) : Option (Bool) := if a0_0 = a1_0 then ((dq.f k a0_1 l0_2 a1_1 l1_2).bind fun t511 => (if t511 = true then (some true) else (some false))) else (some false)
instance dL.mono (k : Nat) : M6 dL.f k := ⟨by intros; unfold dL.f; exact mo_⟩
theorem dL.calls (k : Nat) (a0_0 : Int) (a0_1 : ByteArray) (A0_2 : Option Addr) (c0_2 : Nat) (l0_2 : List (S86)) (a1_0 : Int) (a1_1 : ByteArray) (A1_2 : Option Addr) (c1_2 : Nat) (l1_2 : List (S86)) (r : Bool) (w : World) (hr0_2 : Kd.C k86 w A0_2 l0_2.length l0_2) (hc0_2 : l0_2.length ≤ c0_2) (hr1_2 : Kd.C k86 w A1_2 l1_2.length l1_2) (hc1_2 : l1_2.length ≤ c1_2) (h : dL.f k a0_0 a0_1 l0_2 a1_0 a1_1 l1_2 = some r) :
  Calls Tryz.prog 122 #[.agg #[.int .i64 a0_0, .string a0_1, .slice A0_2 l0_2.length c0_2], .agg #[.int .i64 a1_0, .string a1_1, .slice A1_2 l1_2.length c1_2]] w fun e w' => e = .returned (.bool r) ∧ Below w.heap.size w w' := by
 have hu46 := Tryz.underlying46; have hu44 := Tryz.underlying44; have HR0_2 := am_ hr0_2; have HC0_2 := am_ hc0_2; clear hr0_2 hc0_2; have HR1_2 := am_ hr1_2; have HC1_2 := am_ hc1_2; clear hr1_2 hc1_2; have HB := am_ (Below.refl w.heap.size w); have H := h; clear h; unfold dL.f at H
 by_cases c3 : a0_0 = a1_0
 ·rw [if_pos c3] at H; have c3b0 := db c3; have c3b1 := dd c3; clear c3; obtain ⟨t511, A4, H⟩ := bi_ H; cases t511
  ·replace H := hf_ H; obtain rfl := si_ H; go_enter Tryz.func122, Tryz.ntmps122
   go_wp2_with (first | (with_reducible refine gt_ 2 ?_; refine bx_ 2 #[.int .i64 a0_0, .string a0_1, .slice A0_2 l0_2.length c0_2] 46 ?_; intro gb509 hg w12 hbox hb; have BK509 := am_ (hbox); have GE509 := gw_ HB hg; replace HB := bs_ HB hb; clear hb hbox hg) | (with_reducible refine gt_ 3 ?_; refine bx_ 3 #[.int .i64 a1_0, .string a1_1, .slice A1_2 l1_2.length c1_2] 46 ?_; intro gb510 hg w13 hbox hb; have BK510 := am_ (hbox); have GE510 := gw_ HB hg; replace HB := bs_ HB hb; have NB509_510 := nl_ BK509 hg; have NB510_509 := ng_ BK509 hg; replace BK509 := bb_ BK509 hb; clear hb hbox hg; have hnb14 := NB509_510.out; have hnc14 := NB510_509.out; obtain ⟨hcz15_0, hcz15_1, hcz15_2, hfz15_0, hfz15_1, hfz15_2⟩ := bX BK509.out; obtain ⟨hcz16_0, hcz16_1, hcz16_2, hfz16_0, hfz16_1, hfz16_2⟩ := bX BK510.out) | ((with_reducible refine gt_ 14 ?_); refine gB_ 14 Tryz.func29 (dq.calls k a0_1 _ _ l0_2 a1_1 _ _ l1_2 false _ (kc_ HR0_2 HB) HC0_2.out (kc_ HR1_2 HB) HC1_2.out A4.out) ?_; intro w17 hb; replace BK509 := bb_ BK509 hb; replace BK510 := bb_ BK510 hb; replace HB := bs_ HB hb; (try clear hb)))
   go_ret
   exact ⟨u0_, bw_ HB⟩
  ·replace H := ht_ H; obtain rfl := si_ H; go_enter Tryz.func122, Tryz.ntmps122
   go_wp2_with (first | (with_reducible refine gt_ 2 ?_; refine bx_ 2 #[.int .i64 a0_0, .string a0_1, .slice A0_2 l0_2.length c0_2] 46 ?_; intro gb509 hg w6 hbox hb; have BK509 := am_ (hbox); have GE509 := gw_ HB hg; replace HB := bs_ HB hb; clear hb hbox hg) | (with_reducible refine gt_ 3 ?_; refine bx_ 3 #[.int .i64 a1_0, .string a1_1, .slice A1_2 l1_2.length c1_2] 46 ?_; intro gb510 hg w7 hbox hb; have BK510 := am_ (hbox); have GE510 := gw_ HB hg; replace HB := bs_ HB hb; have NB509_510 := nl_ BK509 hg; have NB510_509 := ng_ BK509 hg; replace BK509 := bb_ BK509 hb; clear hb hbox hg; have hnb8 := NB509_510.out; have hnc8 := NB510_509.out; obtain ⟨hcz9_0, hcz9_1, hcz9_2, hfz9_0, hfz9_1, hfz9_2⟩ := bX BK509.out; obtain ⟨hcz10_0, hcz10_1, hcz10_2, hfz10_0, hfz10_1, hfz10_2⟩ := bX BK510.out) | ((with_reducible refine gt_ 14 ?_); refine gB_ 14 Tryz.func29 (dq.calls k a0_1 _ _ l0_2 a1_1 _ _ l1_2 true _ (kc_ HR0_2 HB) HC0_2.out (kc_ HR1_2 HB) HC1_2.out A4.out) ?_; intro w11 hb; replace BK509 := bb_ BK509 hb; replace BK510 := bb_ BK510 hb; replace HB := bs_ HB hb; (try clear hb)))
   go_ret
   exact ⟨u0_, bw_ HB⟩
 ·rw [if_neg c3] at H; have c3b0 := da c3; have c3b1 := dc c3; obtain rfl := si_ H; go_enter Tryz.func122, Tryz.ntmps122
  go_wp2_with (first | (with_reducible refine gt_ 2 ?_; refine bx_ 2 #[.int .i64 a0_0, .string a0_1, .slice A0_2 l0_2.length c0_2] 46 ?_; intro gb509 hg w18 hbox hb; have BK509 := am_ (hbox); have GE509 := gw_ HB hg; replace HB := bs_ HB hb; clear hb hbox hg) | (with_reducible refine gt_ 3 ?_; refine bx_ 3 #[.int .i64 a1_0, .string a1_1, .slice A1_2 l1_2.length c1_2] 46 ?_; intro gb510 hg w19 hbox hb; have BK510 := am_ (hbox); have GE510 := gw_ HB hg; replace HB := bs_ HB hb; have NB509_510 := nl_ BK509 hg; have NB510_509 := ng_ BK509 hg; replace BK509 := bb_ BK509 hb; clear hb hbox hg; have hnb20 := NB509_510.out; have hnc20 := NB510_509.out; obtain ⟨hcz21_0, hcz21_1, hcz21_2, hfz21_0, hfz21_1, hfz21_2⟩ := bX BK509.out; obtain ⟨hcz22_0, hcz22_1, hcz22_2, hfz22_0, hfz22_1, hfz22_2⟩ := bX BK510.out))
  go_ret
  exact ⟨u0_, bw_ HB⟩
def aZ.l0 : Nat → List (S46) → List (S46) → Int → Option (Bool)
 | 0, _, _, _ => none
 | k + 1, x0, x1, x5 => if x5 < (x0.length : Int) then (if 0 ≤ x5 then (if x5 < (x1.length : Int) then ((dL.f k ((ab x0 x5).f0) ((ab x0 x5).f1.f0) ((ab x0 x5).f1.f1) ((ab x1 x5).f0) ((ab x1 x5).f1.f0) ((ab x1 x5).f1.f1)).bind fun t514 => (if t514 = true then (aZ.l0 k x0 x1 (wrap64 (x5 + 1))) else (some false))) else (none)) else (none)) else (some true)
def aZ.f (k : Nat) (l0 : List (S46)) (l1 : List (S46)) : Option (Bool) := if (l0.length : Int) = (l1.length : Int) then (aZ.l0 k l0 l1 0) else (some false)
theorem aZ.mono_l : ∀ k, M3 aZ.l0 k
 | 0 => ⟨cU⟩
 | k + 1 => by have _ := aZ.mono_l k; exact ⟨by intros; unfold aZ.l0; exact mo_⟩
instance aZ.mono (k : Nat) : M2 aZ.f k := ⟨by have _ := aZ.mono_l k; intros; unfold aZ.f; exact mo_⟩
def aZ.T6 : Bool × List (List Nat × List Nat) := (true, [([], []), ([], []), ([0, 1], [0, 1]), ([2], [2]), ([], []), ([], []), ([4, 5], [4, 5]), ([6], [6]), ([3, 7], [3, 7]), ([8], [8])])
def aZ.B6 : List Nat := [0, 0, 3, 7, 0, 0, 48, 112, 255, 511]
theorem aZ.tab6 : dM .any (fS Tryz.f71 6) = aZ.T6 := by kernel_rfl
theorem aZ.bits6 : dt aZ.T6.2 aZ.B6 = true := by kernel_rfl
theorem aZ.calls (k : Nat) (A0 : Option Addr) (c0 : Nat) (l0 : List (S46)) (A1 : Option Addr) (c1 : Nat) (l1 : List (S46)) (r : Bool) (w : World) (hr0 : Kd.C k46 w A0 l0.length l0) (hc0 : l0.length ≤ c0) (hr1 : Kd.C k46 w A1 l1.length l1) (hc1 : l1.length ≤ c1) (h : aZ.f k l0 l1 = some r) :
  Calls Tryz.prog 71 #[.slice A0 l0.length c0, .slice A1 l1.length c1] w fun e w' => e = .returned (.bool r) ∧ Below w.heap.size w w' := by
 have hu46 := Tryz.underlying46; have HR0 := am_ hr0; have HC0 := am_ hc0; clear hr0 hc0; have HR1 := am_ hr1; have HC1 := am_ hc1; clear hr1 hc1; have HB := am_ (Below.refl w.heap.size w); have H := h; clear h; unfold aZ.f at H
 by_cases c3 : (l0.length : Int) = (l1.length : Int)
 ·rw [if_pos c3] at H; have c3b0 := db c3; have c3b1 := dd c3; have c3b2 : (l0.length == l1.length) = true := by first | simpa using c3 | (simp at c3 ⊢; omega)
  clear c3; have H' := am_ H; clear H; go_enter Tryz.func71, Tryz.ntmps71
  go_wp2; go_loopg [5] k (fun kq v5 w' => ∃ (x5_1 : Int), v5 = .int .i64 x5_1 ∧ aa (aZ.l0 kq l0 l1 x5_1 = some r) ∧ aa (kq ≤ k) ∧ aa (Below w.heap.size w w'))
  case atStart => exact ⟨(0), u1_, H', ⟨Nat.le_refl _⟩, ⟨bw_ HB⟩⟩
  case round =>
   clear H'; try clear c1
   try clear c3
   try clear c3b0
   try clear c3b1
   try clear c3b2
   obtain ⟨x5_1, rfl, HA, HK1, HB⟩ := hrel; cases gk with
   | zero => exact absurd HA.out (by simp [aZ.l0])
   | succ k1 =>
    have H := HA.out; clear HA; simp only [aZ.l0] at H; by_cases c4 : x5_1 < (l0.length : Int)
    ·rw [if_pos c4] at H; have c4b0 := decide_eq_true c4; clear c4; obtain ⟨c5b0, H⟩ := gd_ H; obtain ⟨c6b0, H⟩ := gd_ H; obtain ⟨t514, A7, H⟩ := bi_ H; have HC_ := am_ H; clear H; try go_wp2
     replace HB := am_ (bg HB.out); obtain ⟨ad512, A512_2, c512_2, e512, hx512_0, hx512_1, hx512_2, hl512_2, hi512_2⟩ := dG HR0.out x5_1 od_ od_; have hw512_2 := hx512_2; have hw512_1 := hx512_1; have hw512_0 := hx512_0; cases e512; replace hx512_0 := cb_ HB hx512_0; replace hx512_1 := cb_ HB hx512_1; replace hx512_2 := cb_ HB hx512_2; have HR512_2 := am_ hi512_2; have HC512_2 := am_ hl512_2; clear hi512_2 hl512_2; obtain ⟨p512, q512⟩ := pt_ x5_1 l0.length; obtain ⟨ad513, A513_2, c513_2, e513, hx513_0, hx513_1, hx513_2, hl513_2, hi513_2⟩ := dG HR1.out x5_1 od_ od_; have hw513_2 := hx513_2; have hw513_1 := hx513_1; have hw513_0 := hx513_0; cases e513; replace hx513_0 := cb_ HB hx513_0; replace hx513_1 := cb_ HB hx513_1; replace hx513_2 := cb_ HB hx513_2; have HR513_2 := am_ hi513_2; have HC513_2 := am_ hl513_2; clear hi513_2 hl513_2; obtain ⟨p513, q513⟩ := pt_ x5_1 l1.length; refine cT (n := 10) (S := fun w' => w'.cell? (ad512.add ((x5_1).toNat * 3)) = some (.int .i64 ((ab l0 x5_1).f0)) ∧ w'.cell? ⟨(ad512.add ((x5_1).toNat * 3)).block, (ad512.add ((x5_1).toNat * 3)).off + 1, none⟩ = some (.string ((ab l0 x5_1).f1.f0)) ∧ w'.cell? ⟨(ad512.add ((x5_1).toNat * 3)).block, (ad512.add ((x5_1).toNat * 3)).off + 2, none⟩ = some (.slice A512_2 ((ab l0 x5_1).f1.f1).length c512_2) ∧ w'.cell? (ad513.add ((x5_1).toNat * 3)) = some (.int .i64 ((ab l1 x5_1).f0)) ∧ w'.cell? ⟨(ad513.add ((x5_1).toNat * 3)).block, (ad513.add ((x5_1).toNat * 3)).off + 1, none⟩ = some (.string ((ab l1 x5_1).f1.f0)) ∧ w'.cell? ⟨(ad513.add ((x5_1).toNat * 3)).block, (ad513.add ((x5_1).toNat * 3)).off + 2, none⟩ = some (.slice A513_2 ((ab l1 x5_1).f1.f1).length c513_2)) (ds := []) (bm_ 10 0) ch rfl rfl ⟨(cc_ HB hw512_0), (cc_ HB hw512_1), (cc_ HB hw512_2), (cc_ HB hw513_0), (cc_ HB hw513_1), (cc_ HB hw513_2)⟩ (fun hHeld => ?_); refine bO aZ.tab6 aZ.bits6 (fun HT_ HW_ => ?_); generalize wr.drew = w11 at HB HR512_2 HR513_2 hx512_0 hx512_1 hx512_2 hx513_0 hx513_1 hx513_2 hHeld ⊢; refine pv_ 0 17 ?_; refine pv_ 1 18 ?_; refine pv_ 2 19 ?_; refine pv_ 4 21 ?_; refine pv_ 5 22 ?_; refine pv_ 6 23 ?_; refine tv_ 3 20 ?_; refine tv_ 7 24 ?_; refine ov_ 8 25 (fun K hK => ?_); refine oB_ Tryz.func122 (dL.calls k1 ((ab l0 x5_1).f0) ((ab l0 x5_1).f1.f0) _ _ ((ab l0 x5_1).f1.f1) ((ab l1 x5_1).f0) ((ab l1 x5_1).f1.f0) _ _ ((ab l1 x5_1).f1.f1) t514 _ (kc_ HR512_2 HB) HC512_2.out (kc_ HR513_2 HB) HC513_2.out A7.out) ?_; intro w12 hb; replace HB := bs_ HB hb; (try clear hb)
     refine hK.out _ _ ⟨(cc_ HB hw512_0), (cc_ HB hw512_1), (cc_ HB hw512_2), (cc_ HB hw513_0), (cc_ HB hw513_1), (cc_ HB hw513_2)⟩ (fun hHeld => ?_); clear hK K; refine nm_ ?_; refine pv_ 9 26 ?_; refine dn_ HT_ ?_; have H := HC_.out; clear HC_; cases t514
     ·replace H := hf_ H; obtain rfl := si_ H; try go_wp2
      go_ret
      exact ⟨u0_, bw_ HB⟩
     ·replace H := ht_ H; have H' := am_ H; clear H; try go_wp2
      go_roundg k1
      case measure => have := HK1.out; omega
      case rel => exact ⟨(wrap64 (x5_1 + 1)), u1_, H', ⟨du⟩, ⟨bw_ HB⟩⟩
    ·rw [if_neg c4] at H; have c4b0 := decide_eq_false c4; clear c4; obtain rfl := si_ H; go_wp2; go_ret
     exact ⟨u0_, bw_ HB⟩
 ·rw [if_neg c3] at H; have c3b0 := da c3; have c3b1 := dc c3; have c3b2 : (l0.length == l1.length) = false := by first | simpa using c3 | (simp at c3 ⊢; omega)
  obtain rfl := si_ H; go_enter Tryz.func71, Tryz.ntmps71
  go_wp2; go_ret
  exact ⟨u0_, bw_ HB⟩
def bE.l0 : Nat → List Int → List Int → Int → Option (Bool)
 | 0, _, _, _ => none
 | k + 1, x0, x1, x5 => if x5 < (x0.length : Int) then (if 0 ≤ x5 then (if x5 < (x1.length : Int) then (if (rd x0 x5) = (rd x1 x5) then (bE.l0 k x0 x1 (wrap64 (x5 + 1))) else (some false)) else (none)) else (none)) else (some true)
def bE.f (k : Nat) (l0 : List Int) (l1 : List Int) : Option (Bool) := if (l0.length : Int) = (l1.length : Int) then (bE.l0 k l0 l1 0) else (some false)
theorem bE.mono_l : ∀ k, M3 bE.l0 k
 | 0 => ⟨cU⟩
 | k + 1 => by have _ := bE.mono_l k; exact ⟨by intros; unfold bE.l0; exact mo_⟩
instance bE.mono (k : Nat) : M2 bE.f k := ⟨by have _ := bE.mono_l k; intros; unfold bE.f; exact mo_⟩
theorem bE.calls (k : Nat) (A0 : Option Addr) (c0 : Nat) (l0 : List Int) (A1 : Option Addr) (c1 : Nat) (l1 : List Int) (r : Bool) (w : World) (hr0 : Kd.C (Kd.int .i64) w A0 l0.length l0) (hc0 : l0.length ≤ c0) (hr1 : Kd.C (Kd.int .i64) w A1 l1.length l1) (hc1 : l1.length ≤ c1) (h : bE.f k l0 l1 = some r) :
  Calls Tryz.prog 125 #[.slice A0 l0.length c0, .slice A1 l1.length c1] w fun e w' => e = .returned (.bool r) ∧ Drawn0 w w' := by
 have HR0 := am_ hr0; have HC0 := am_ hc0; clear hr0 hc0; have HR1 := am_ hr1; have HC1 := am_ hc1; clear hr1 hc1; have H := h; clear h; unfold bE.f at H
 by_cases c3 : (l0.length : Int) = (l1.length : Int)
 ·rw [if_pos c3] at H; have c3b0 := db c3; have c3b1 := dd c3; have c3b2 : (l0.length == l1.length) = true := by first | simpa using c3 | (simp at c3 ⊢; omega)
  clear c3; have H' := am_ H; clear H; go_enter Tryz.func125, Tryz.ntmps125
  go_wp2; repeat (go_quiet (fail); try go_wp2)
  go_loopg [5] k (fun kq v5 w' => ∃ (x5_1 : Int), v5 = .int .i64 x5_1 ∧ aa (bE.l0 kq l0 l1 x5_1 = some r) ∧ aa (kq ≤ k) ∧ Drawn0 w w')
  case atStart => exact ⟨(0), u1_, H', ⟨Nat.le_refl _⟩, u3_⟩
  case round =>
   clear H'; try clear c1
   try clear c3
   try clear c3b0
   try clear c3b1
   try clear c3b2
   obtain ⟨x5_1, rfl, HA, HK1, ⟨m1, rfl⟩⟩ := hrel; cases gk with
   | zero => exact absurd HA.out (by simp [bE.l0])
   | succ k1 =>
    have H := HA.out; clear HA; simp only [bE.l0] at H; by_cases c4 : x5_1 < (l0.length : Int)
    ·rw [if_pos c4] at H; have c4b0 := decide_eq_true c4; clear c4; obtain ⟨c5b0, H⟩ := gd_ H; obtain ⟨c6b0, H⟩ := gd_ H; by_cases c7 : (rd l0 x5_1) = (rd l1 x5_1)
     ·rw [if_pos c7] at H; have c7b0 := db c7; have c7b1 := dd c7; clear c7; have H' := am_ H; clear H; obtain ⟨ad515, e515, hx515_0⟩ := Kd.at_int HR0.out x5_1 od_ od_; cases e515; obtain ⟨p515, q515⟩ := pt_ x5_1 l0.length; obtain ⟨ad516, e516, hx516_0⟩ := Kd.at_int HR1.out x5_1 od_ od_; cases e516; obtain ⟨p516, q516⟩ := pt_ x5_1 l1.length; go_wp2; repeat (go_quiet (fail); try go_wp2)
      go_roundg k1
      case measure => have := HK1.out; omega
      case rel => exact ⟨(wrap64 (x5_1 + 1)), u1_, H', ⟨du⟩, u3_⟩
     ·rw [if_neg c7] at H; have c7b0 := da c7; have c7b1 := dc c7; obtain rfl := si_ H; obtain ⟨ad515, e515, hx515_0⟩ := Kd.at_int HR0.out x5_1 od_ od_; cases e515; obtain ⟨p515, q515⟩ := pt_ x5_1 l0.length; obtain ⟨ad516, e516, hx516_0⟩ := Kd.at_int HR1.out x5_1 od_ od_; cases e516; obtain ⟨p516, q516⟩ := pt_ x5_1 l1.length; go_wp2; repeat (go_quiet (fail); try go_wp2)
      go_ret
      exact ⟨u4_, u3_⟩
    ·rw [if_neg c4] at H; have c4b0 := decide_eq_false c4; clear c4; obtain rfl := si_ H; go_wp2; repeat (go_quiet (fail); try go_wp2)
     go_ret
     exact ⟨u4_, u3_⟩
 ·rw [if_neg c3] at H; have c3b0 := da c3; have c3b1 := dc c3; have c3b2 : (l0.length == l1.length) = false := by first | simpa using c3 | (simp at c3 ⊢; omega)
  obtain rfl := si_ H; go_enter Tryz.func125, Tryz.ntmps125
  go_wp2; repeat (go_quiet (fail); try go_wp2)
  go_ret
  exact ⟨u4_, u3_⟩
def dx.f (k : Nat) (a0_0 : Int) (l0_1 : List Int) (a1_0 : Int) (l1_1 : List Int) : Option (Bool) := if a0_0 = a1_0 then ((bE.f k l0_1 l1_1).bind fun t519 => (if t519 = true then (some true) else (some false))) else (some false)
instance dx.mono (k : Nat) : M4 dx.f k := ⟨by intros; unfold dx.f; exact mo_⟩
theorem dx.calls (k : Nat) (a0_0 : Int) (A0_1 : Option Addr) (c0_1 : Nat) (l0_1 : List Int) (a1_0 : Int) (A1_1 : Option Addr) (c1_1 : Nat) (l1_1 : List Int) (r : Bool) (w : World) (hr0_1 : Kd.C (Kd.int .i64) w A0_1 l0_1.length l0_1) (hc0_1 : l0_1.length ≤ c0_1) (hr1_1 : Kd.C (Kd.int .i64) w A1_1 l1_1.length l1_1) (hc1_1 : l1_1.length ≤ c1_1) (h : dx.f k a0_0 l0_1 a1_0 l1_1 = some r) :
  Calls Tryz.prog 80 #[.agg #[.int .i64 a0_0, .slice A0_1 l0_1.length c0_1], .agg #[.int .i64 a1_0, .slice A1_1 l1_1.length c1_1]] w fun e w' => e = .returned (.bool r) ∧ Below w.heap.size w w' := by
 have hu50 := Tryz.underlying50; have HR0_1 := am_ hr0_1; have HC0_1 := am_ hc0_1; clear hr0_1 hc0_1; have HR1_1 := am_ hr1_1; have HC1_1 := am_ hc1_1; clear hr1_1 hc1_1; have HB := am_ (Below.refl w.heap.size w); have H := h; clear h; unfold dx.f at H
 by_cases c3 : a0_0 = a1_0
 ·rw [if_pos c3] at H; have c3b0 := db c3; have c3b1 := dd c3; clear c3; obtain ⟨t519, A4, H⟩ := bi_ H; cases t519
  ·replace H := hf_ H; obtain rfl := si_ H; go_enter Tryz.func80, Tryz.ntmps80
   go_wp2_with (first | (with_reducible refine gt_ 2 ?_; refine bx_ 2 #[.int .i64 a0_0, .slice A0_1 l0_1.length c0_1] 50 ?_; intro gb517 hg w11 hbox hb; have BK517 := am_ (hbox); have GE517 := gw_ HB hg; replace HB := bs_ HB hb; clear hb hbox hg) | (with_reducible refine gt_ 3 ?_; refine bx_ 3 #[.int .i64 a1_0, .slice A1_1 l1_1.length c1_1] 50 ?_; intro gb518 hg w12 hbox hb; have BK518 := am_ (hbox); have GE518 := gw_ HB hg; replace HB := bs_ HB hb; have NB517_518 := nl_ BK517 hg; have NB518_517 := ng_ BK517 hg; replace BK517 := bb_ BK517 hb; clear hb hbox hg; have hnb13 := NB517_518.out; have hnc13 := NB518_517.out; obtain ⟨hcz14_0, hcz14_1, hfz14_0, hfz14_1⟩ := bW BK517.out; obtain ⟨hcz15_0, hcz15_1, hfz15_0, hfz15_1⟩ := bW BK518.out) | ((with_reducible refine gt_ 14 ?_); refine gD_ 14 Tryz.func125 (bE.calls k _ _ l0_1 _ _ l1_1 false _ (kc_ HR0_1 HB) HC0_1.out (kc_ HR1_1 HB) HC1_1.out A4.out) ?_; intro nd))
   go_ret
   exact ⟨u0_, bw_ HB⟩
  ·replace H := ht_ H; obtain rfl := si_ H; go_enter Tryz.func80, Tryz.ntmps80
   go_wp2_with (first | (with_reducible refine gt_ 2 ?_; refine bx_ 2 #[.int .i64 a0_0, .slice A0_1 l0_1.length c0_1] 50 ?_; intro gb517 hg w6 hbox hb; have BK517 := am_ (hbox); have GE517 := gw_ HB hg; replace HB := bs_ HB hb; clear hb hbox hg) | (with_reducible refine gt_ 3 ?_; refine bx_ 3 #[.int .i64 a1_0, .slice A1_1 l1_1.length c1_1] 50 ?_; intro gb518 hg w7 hbox hb; have BK518 := am_ (hbox); have GE518 := gw_ HB hg; replace HB := bs_ HB hb; have NB517_518 := nl_ BK517 hg; have NB518_517 := ng_ BK517 hg; replace BK517 := bb_ BK517 hb; clear hb hbox hg; have hnb8 := NB517_518.out; have hnc8 := NB518_517.out; obtain ⟨hcz9_0, hcz9_1, hfz9_0, hfz9_1⟩ := bW BK517.out; obtain ⟨hcz10_0, hcz10_1, hfz10_0, hfz10_1⟩ := bW BK518.out) | ((with_reducible refine gt_ 14 ?_); refine gD_ 14 Tryz.func125 (bE.calls k _ _ l0_1 _ _ l1_1 true _ (kc_ HR0_1 HB) HC0_1.out (kc_ HR1_1 HB) HC1_1.out A4.out) ?_; intro nd))
   go_ret
   exact ⟨u0_, bw_ HB⟩
 ·rw [if_neg c3] at H; have c3b0 := da c3; have c3b1 := dc c3; obtain rfl := si_ H; go_enter Tryz.func80, Tryz.ntmps80
  go_wp2_with (first | (with_reducible refine gt_ 2 ?_; refine bx_ 2 #[.int .i64 a0_0, .slice A0_1 l0_1.length c0_1] 50 ?_; intro gb517 hg w16 hbox hb; have BK517 := am_ (hbox); have GE517 := gw_ HB hg; replace HB := bs_ HB hb; clear hb hbox hg) | (with_reducible refine gt_ 3 ?_; refine bx_ 3 #[.int .i64 a1_0, .slice A1_1 l1_1.length c1_1] 50 ?_; intro gb518 hg w17 hbox hb; have BK518 := am_ (hbox); have GE518 := gw_ HB hg; replace HB := bs_ HB hb; have NB517_518 := nl_ BK517 hg; have NB518_517 := ng_ BK517 hg; replace BK517 := bb_ BK517 hb; clear hb hbox hg; have hnb18 := NB517_518.out; have hnc18 := NB518_517.out; obtain ⟨hcz19_0, hcz19_1, hfz19_0, hfz19_1⟩ := bW BK517.out; obtain ⟨hcz20_0, hcz20_1, hfz20_0, hfz20_1⟩ := bW BK518.out))
  go_ret
  exact ⟨u0_, bw_ HB⟩
def aM.l0 : Nat → List (S50) → List (S50) → Int → Option (Bool)
 | 0, _, _, _ => none
 | k + 1, x0, x1, x5 => if x5 < (x0.length : Int) then (if 0 ≤ x5 then (if x5 < (x1.length : Int) then ((dx.f k ((bm x0 x5).f0) ((bm x0 x5).f1) ((bm x1 x5).f0) ((bm x1 x5).f1)).bind fun t522 => (if t522 = true then (aM.l0 k x0 x1 (wrap64 (x5 + 1))) else (some false))) else (none)) else (none)) else (some true)
def aM.f (k : Nat) (l0 : List (S50)) (l1 : List (S50)) : Option (Bool) := if (l0.length : Int) = (l1.length : Int) then (aM.l0 k l0 l1 0) else (some false)
theorem aM.mono_l : ∀ k, M3 aM.l0 k
 | 0 => ⟨cU⟩
 | k + 1 => by have _ := aM.mono_l k; exact ⟨by intros; unfold aM.l0; exact mo_⟩
instance aM.mono (k : Nat) : M2 aM.f k := ⟨by have _ := aM.mono_l k; intros; unfold aM.f; exact mo_⟩
def aM.T6 : Bool × List (List Nat × List Nat) := (true, [([], []), ([], []), ([0, 1], [0, 1]), ([2], [2]), ([], []), ([], []), ([4, 5], [4, 5]), ([6], [6]), ([3, 7], [3, 7]), ([8], [8])])
def aM.B6 : List Nat := [0, 0, 3, 7, 0, 0, 48, 112, 255, 511]
theorem aM.tab6 : dM .any (fS Tryz.f33 6) = aM.T6 := by kernel_rfl
theorem aM.bits6 : dt aM.T6.2 aM.B6 = true := by kernel_rfl
theorem aM.calls (k : Nat) (A0 : Option Addr) (c0 : Nat) (l0 : List (S50)) (A1 : Option Addr) (c1 : Nat) (l1 : List (S50)) (r : Bool) (w : World) (hr0 : Kd.C k50 w A0 l0.length l0) (hc0 : l0.length ≤ c0) (hr1 : Kd.C k50 w A1 l1.length l1) (hc1 : l1.length ≤ c1) (h : aM.f k l0 l1 = some r) :
  Calls Tryz.prog 33 #[.slice A0 l0.length c0, .slice A1 l1.length c1] w fun e w' => e = .returned (.bool r) ∧ Below w.heap.size w w' := by
 have hu50 := Tryz.underlying50; have HR0 := am_ hr0; have HC0 := am_ hc0; clear hr0 hc0; have HR1 := am_ hr1; have HC1 := am_ hc1; clear hr1 hc1; have HB := am_ (Below.refl w.heap.size w); have H := h; clear h; unfold aM.f at H
 by_cases c3 : (l0.length : Int) = (l1.length : Int)
 ·rw [if_pos c3] at H; have c3b0 := db c3; have c3b1 := dd c3; have c3b2 : (l0.length == l1.length) = true := by first | simpa using c3 | (simp at c3 ⊢; omega)
  clear c3; have H' := am_ H; clear H; go_enter Tryz.func33, Tryz.ntmps33
  go_wp2; go_loopg [5] k (fun kq v5 w' => ∃ (x5_1 : Int), v5 = .int .i64 x5_1 ∧ aa (aM.l0 kq l0 l1 x5_1 = some r) ∧ aa (kq ≤ k) ∧ aa (Below w.heap.size w w'))
  case atStart => exact ⟨(0), u1_, H', ⟨Nat.le_refl _⟩, ⟨bw_ HB⟩⟩
  case round =>
   clear H'; try clear c1
   try clear c3
   try clear c3b0
   try clear c3b1
   try clear c3b2
   obtain ⟨x5_1, rfl, HA, HK1, HB⟩ := hrel; cases gk with
   | zero => exact absurd HA.out (by simp [aM.l0])
   | succ k1 =>
    have H := HA.out; clear HA; simp only [aM.l0] at H; by_cases c4 : x5_1 < (l0.length : Int)
    ·rw [if_pos c4] at H; have c4b0 := decide_eq_true c4; clear c4; obtain ⟨c5b0, H⟩ := gd_ H; obtain ⟨c6b0, H⟩ := gd_ H; obtain ⟨t522, A7, H⟩ := bi_ H; have HC_ := am_ H; clear H; try go_wp2
     replace HB := am_ (bg HB.out); obtain ⟨ad520, A520_1, c520_1, e520, hx520_0, hx520_1, hl520_1, hi520_1⟩ := gm HR0.out x5_1 od_ od_; have hw520_1 := hx520_1; have hw520_0 := hx520_0; cases e520; replace hx520_0 := cb_ HB hx520_0; replace hx520_1 := cb_ HB hx520_1; have HR520_1 := am_ hi520_1; have HC520_1 := am_ hl520_1; clear hi520_1 hl520_1; obtain ⟨p520, q520⟩ := pt_ x5_1 l0.length; obtain ⟨ad521, A521_1, c521_1, e521, hx521_0, hx521_1, hl521_1, hi521_1⟩ := gm HR1.out x5_1 od_ od_; have hw521_1 := hx521_1; have hw521_0 := hx521_0; cases e521; replace hx521_0 := cb_ HB hx521_0; replace hx521_1 := cb_ HB hx521_1; have HR521_1 := am_ hi521_1; have HC521_1 := am_ hl521_1; clear hi521_1 hl521_1; obtain ⟨p521, q521⟩ := pt_ x5_1 l1.length; refine cT (n := 10) (S := fun w' => w'.cell? (ad520.add ((x5_1).toNat * 2)) = some (.int .i64 ((bm l0 x5_1).f0)) ∧ w'.cell? ⟨(ad520.add ((x5_1).toNat * 2)).block, (ad520.add ((x5_1).toNat * 2)).off + 1, none⟩ = some (.slice A520_1 ((bm l0 x5_1).f1).length c520_1) ∧ w'.cell? (ad521.add ((x5_1).toNat * 2)) = some (.int .i64 ((bm l1 x5_1).f0)) ∧ w'.cell? ⟨(ad521.add ((x5_1).toNat * 2)).block, (ad521.add ((x5_1).toNat * 2)).off + 1, none⟩ = some (.slice A521_1 ((bm l1 x5_1).f1).length c521_1)) (ds := []) (bm_ 10 0) ch rfl rfl ⟨(cc_ HB hw520_0), (cc_ HB hw520_1), (cc_ HB hw521_0), (cc_ HB hw521_1)⟩ (fun hHeld => ?_); refine bO aM.tab6 aM.bits6 (fun HT_ HW_ => ?_); generalize wr.drew = w11 at HB HR520_1 HR521_1 hx520_0 hx520_1 hx521_0 hx521_1 hHeld ⊢; refine pv_ 0 17 ?_; refine pv_ 1 18 ?_; refine pv_ 2 19 ?_; refine pv_ 4 21 ?_; refine pv_ 5 22 ?_; refine pv_ 6 23 ?_; refine tv_ 3 20 ?_; refine tv_ 7 24 ?_; refine ov_ 8 25 (fun K hK => ?_); refine oB_ Tryz.func80 (dx.calls k1 ((bm l0 x5_1).f0) _ _ ((bm l0 x5_1).f1) ((bm l1 x5_1).f0) _ _ ((bm l1 x5_1).f1) t522 _ (kc_ HR520_1 HB) HC520_1.out (kc_ HR521_1 HB) HC521_1.out A7.out) ?_; intro w12 hb; replace HB := bs_ HB hb; (try clear hb)
     refine hK.out _ _ ⟨(cc_ HB hw520_0), (cc_ HB hw520_1), (cc_ HB hw521_0), (cc_ HB hw521_1)⟩ (fun hHeld => ?_); clear hK K; refine nm_ ?_; refine pv_ 9 26 ?_; refine dn_ HT_ ?_; have H := HC_.out; clear HC_; cases t522
     ·replace H := hf_ H; obtain rfl := si_ H; try go_wp2
      go_ret
      exact ⟨u0_, bw_ HB⟩
     ·replace H := ht_ H; have H' := am_ H; clear H; try go_wp2
      go_roundg k1
      case measure => have := HK1.out; omega
      case rel => exact ⟨(wrap64 (x5_1 + 1)), u1_, H', ⟨du⟩, ⟨bw_ HB⟩⟩
    ·rw [if_neg c4] at H; have c4b0 := decide_eq_false c4; clear c4; obtain rfl := si_ H; go_wp2; go_ret
     exact ⟨u0_, bw_ HB⟩
 ·rw [if_neg c3] at H; have c3b0 := da c3; have c3b1 := dc c3; have c3b2 : (l0.length == l1.length) = false := by first | simpa using c3 | (simp at c3 ⊢; omega)
  obtain rfl := si_ H; go_enter Tryz.func33, Tryz.ntmps33
  go_wp2; go_ret
  exact ⟨u0_, bw_ HB⟩
def dk.f (k : Nat) (a0_0 : ByteArray) (a0_1 : ByteArray) (l0_2 : List (S50)) (a1_0 : ByteArray) (a1_1 : ByteArray) (l1_2 : List (S50)) : Option (Bool) := if a0_0.toList = a1_0.toList then (if a0_1.toList = a1_1.toList then ((aM.f k l0_2 l1_2).bind fun t525 => (if t525 = true then (some true) else (some false))) else (some false)) else (some false)
instance dk.mono (k : Nat) : M6 dk.f k := ⟨by intros; unfold dk.f; exact mo_⟩
theorem dk.calls (k : Nat) (a0_0 : ByteArray) (a0_1 : ByteArray) (A0_2 : Option Addr) (c0_2 : Nat) (l0_2 : List (S50)) (a1_0 : ByteArray) (a1_1 : ByteArray) (A1_2 : Option Addr) (c1_2 : Nat) (l1_2 : List (S50)) (r : Bool) (w : World) (hr0_2 : Kd.C k50 w A0_2 l0_2.length l0_2) (hc0_2 : l0_2.length ≤ c0_2) (hr1_2 : Kd.C k50 w A1_2 l1_2.length l1_2) (hc1_2 : l1_2.length ≤ c1_2) (h : dk.f k a0_0 a0_1 l0_2 a1_0 a1_1 l1_2 = some r) :
  Calls Tryz.prog 123 #[.agg #[.string a0_0, .string a0_1, .slice A0_2 l0_2.length c0_2], .agg #[.string a1_0, .string a1_1, .slice A1_2 l1_2.length c1_2]] w fun e w' => e = .returned (.bool r) ∧ Below w.heap.size w w' := by
 have hu76 := Tryz.underlying76; have HR0_2 := am_ hr0_2; have HC0_2 := am_ hc0_2; clear hr0_2 hc0_2; have HR1_2 := am_ hr1_2; have HC1_2 := am_ hc1_2; clear hr1_2 hc1_2; have HB := am_ (Below.refl w.heap.size w); have H := h; clear h; unfold dk.f at H
 by_cases c3 : a0_0.toList = a1_0.toList
 ·rw [if_pos c3] at H; have c3b0 := db c3; have c3b1 := dd c3; clear c3; by_cases c4 : a0_1.toList = a1_1.toList
  ·rw [if_pos c4] at H; have c4b0 := db c4; have c4b1 := dd c4; clear c4; obtain ⟨t525, A5, H⟩ := bi_ H; cases t525
   ·replace H := hf_ H; obtain rfl := si_ H; go_enter Tryz.func123, Tryz.ntmps123
    go_wp2_with (first | (with_reducible refine gt_ 2 ?_; refine bx_ 2 #[.string a0_0, .string a0_1, .slice A0_2 l0_2.length c0_2] 76 ?_; intro gb523 hg w13 hbox hb; have BK523 := am_ (hbox); have GE523 := gw_ HB hg; replace HB := bs_ HB hb; clear hb hbox hg) | (with_reducible refine gt_ 3 ?_; refine bx_ 3 #[.string a1_0, .string a1_1, .slice A1_2 l1_2.length c1_2] 76 ?_; intro gb524 hg w14 hbox hb; have BK524 := am_ (hbox); have GE524 := gw_ HB hg; replace HB := bs_ HB hb; have NB523_524 := nl_ BK523 hg; have NB524_523 := ng_ BK523 hg; replace BK523 := bb_ BK523 hb; clear hb hbox hg; have hnb15 := NB523_524.out; have hnc15 := NB524_523.out; obtain ⟨hcz16_0, hcz16_1, hcz16_2, hfz16_0, hfz16_1, hfz16_2⟩ := bX BK523.out; obtain ⟨hcz17_0, hcz17_1, hcz17_2, hfz17_0, hfz17_1, hfz17_2⟩ := bX BK524.out) | ((with_reducible refine gt_ 19 ?_); refine gB_ 19 Tryz.func33 (aM.calls k _ _ l0_2 _ _ l1_2 false _ (kc_ HR0_2 HB) HC0_2.out (kc_ HR1_2 HB) HC1_2.out A5.out) ?_; intro w18 hb; replace BK523 := bb_ BK523 hb; replace BK524 := bb_ BK524 hb; replace HB := bs_ HB hb; (try clear hb)))
    go_ret
    exact ⟨u0_, bw_ HB⟩
   ·replace H := ht_ H; obtain rfl := si_ H; go_enter Tryz.func123, Tryz.ntmps123
    go_wp2_with (first | (with_reducible refine gt_ 2 ?_; refine bx_ 2 #[.string a0_0, .string a0_1, .slice A0_2 l0_2.length c0_2] 76 ?_; intro gb523 hg w7 hbox hb; have BK523 := am_ (hbox); have GE523 := gw_ HB hg; replace HB := bs_ HB hb; clear hb hbox hg) | (with_reducible refine gt_ 3 ?_; refine bx_ 3 #[.string a1_0, .string a1_1, .slice A1_2 l1_2.length c1_2] 76 ?_; intro gb524 hg w8 hbox hb; have BK524 := am_ (hbox); have GE524 := gw_ HB hg; replace HB := bs_ HB hb; have NB523_524 := nl_ BK523 hg; have NB524_523 := ng_ BK523 hg; replace BK523 := bb_ BK523 hb; clear hb hbox hg; have hnb9 := NB523_524.out; have hnc9 := NB524_523.out; obtain ⟨hcz10_0, hcz10_1, hcz10_2, hfz10_0, hfz10_1, hfz10_2⟩ := bX BK523.out; obtain ⟨hcz11_0, hcz11_1, hcz11_2, hfz11_0, hfz11_1, hfz11_2⟩ := bX BK524.out) | ((with_reducible refine gt_ 19 ?_); refine gB_ 19 Tryz.func33 (aM.calls k _ _ l0_2 _ _ l1_2 true _ (kc_ HR0_2 HB) HC0_2.out (kc_ HR1_2 HB) HC1_2.out A5.out) ?_; intro w12 hb; replace BK523 := bb_ BK523 hb; replace BK524 := bb_ BK524 hb; replace HB := bs_ HB hb; (try clear hb)))
    go_ret
    exact ⟨u0_, bw_ HB⟩
  ·rw [if_neg c4] at H; have c4b0 := da c4; have c4b1 := dc c4; obtain rfl := si_ H; go_enter Tryz.func123, Tryz.ntmps123
   go_wp2_with (first | (with_reducible refine gt_ 2 ?_; refine bx_ 2 #[.string a0_0, .string a0_1, .slice A0_2 l0_2.length c0_2] 76 ?_; intro gb523 hg w19 hbox hb; have BK523 := am_ (hbox); have GE523 := gw_ HB hg; replace HB := bs_ HB hb; clear hb hbox hg) | (with_reducible refine gt_ 3 ?_; refine bx_ 3 #[.string a1_0, .string a1_1, .slice A1_2 l1_2.length c1_2] 76 ?_; intro gb524 hg w20 hbox hb; have BK524 := am_ (hbox); have GE524 := gw_ HB hg; replace HB := bs_ HB hb; have NB523_524 := nl_ BK523 hg; have NB524_523 := ng_ BK523 hg; replace BK523 := bb_ BK523 hb; clear hb hbox hg; have hnb21 := NB523_524.out; have hnc21 := NB524_523.out; obtain ⟨hcz22_0, hcz22_1, hcz22_2, hfz22_0, hfz22_1, hfz22_2⟩ := bX BK523.out; obtain ⟨hcz23_0, hcz23_1, hcz23_2, hfz23_0, hfz23_1, hfz23_2⟩ := bX BK524.out))
   go_ret
   exact ⟨u0_, bw_ HB⟩
 ·rw [if_neg c3] at H; have c3b0 := da c3; have c3b1 := dc c3; obtain rfl := si_ H; go_enter Tryz.func123, Tryz.ntmps123
  go_wp2_with (first | (with_reducible refine gt_ 2 ?_; refine bx_ 2 #[.string a0_0, .string a0_1, .slice A0_2 l0_2.length c0_2] 76 ?_; intro gb523 hg w24 hbox hb; have BK523 := am_ (hbox); have GE523 := gw_ HB hg; replace HB := bs_ HB hb; clear hb hbox hg) | (with_reducible refine gt_ 3 ?_; refine bx_ 3 #[.string a1_0, .string a1_1, .slice A1_2 l1_2.length c1_2] 76 ?_; intro gb524 hg w25 hbox hb; have BK524 := am_ (hbox); have GE524 := gw_ HB hg; replace HB := bs_ HB hb; have NB523_524 := nl_ BK523 hg; have NB524_523 := ng_ BK523 hg; replace BK523 := bb_ BK523 hb; clear hb hbox hg; have hnb26 := NB523_524.out; have hnc26 := NB524_523.out; obtain ⟨hcz27_0, hcz27_1, hcz27_2, hfz27_0, hfz27_1, hfz27_2⟩ := bX BK523.out; obtain ⟨hcz28_0, hcz28_1, hcz28_2, hfz28_0, hfz28_1, hfz28_2⟩ := bX BK524.out))
  go_ret
  exact ⟨u0_, bw_ HB⟩
def aE.l0 : Nat → List (S76) → List (S76) → Int → Option (Bool)
 | 0, _, _, _ => none
 | k + 1, x0, x1, x5 => if x5 < (x0.length : Int) then (if 0 ≤ x5 then (if x5 < (x1.length : Int) then ((dk.f k ((ax x0 x5).f0) ((ax x0 x5).f1) ((ax x0 x5).f2) ((ax x1 x5).f0) ((ax x1 x5).f1) ((ax x1 x5).f2)).bind fun t528 => (if t528 = true then (aE.l0 k x0 x1 (wrap64 (x5 + 1))) else (some false))) else (none)) else (none)) else (some true)
def aE.f (k : Nat) (l0 : List (S76)) (l1 : List (S76)) : Option (Bool) := if (l0.length : Int) = (l1.length : Int) then (aE.l0 k l0 l1 0) else (some false)
theorem aE.mono_l : ∀ k, M3 aE.l0 k
 | 0 => ⟨cU⟩
 | k + 1 => by have _ := aE.mono_l k; exact ⟨by intros; unfold aE.l0; exact mo_⟩
instance aE.mono (k : Nat) : M2 aE.f k := ⟨by have _ := aE.mono_l k; intros; unfold aE.f; exact mo_⟩
def aE.T6 : Bool × List (List Nat × List Nat) := (true, [([], []), ([], []), ([0, 1], [0, 1]), ([2], [2]), ([], []), ([], []), ([4, 5], [4, 5]), ([6], [6]), ([3, 7], [3, 7]), ([8], [8])])
def aE.B6 : List Nat := [0, 0, 3, 7, 0, 0, 48, 112, 255, 511]
theorem aE.tab6 : dM .any (fS Tryz.f72 6) = aE.T6 := by kernel_rfl
theorem aE.bits6 : dt aE.T6.2 aE.B6 = true := by kernel_rfl
theorem aE.calls (k : Nat) (A0 : Option Addr) (c0 : Nat) (l0 : List (S76)) (A1 : Option Addr) (c1 : Nat) (l1 : List (S76)) (r : Bool) (w : World) (hr0 : Kd.C k76 w A0 l0.length l0) (hc0 : l0.length ≤ c0) (hr1 : Kd.C k76 w A1 l1.length l1) (hc1 : l1.length ≤ c1) (h : aE.f k l0 l1 = some r) :
  Calls Tryz.prog 72 #[.slice A0 l0.length c0, .slice A1 l1.length c1] w fun e w' => e = .returned (.bool r) ∧ Below w.heap.size w w' := by
 have hu76 := Tryz.underlying76; have HR0 := am_ hr0; have HC0 := am_ hc0; clear hr0 hc0; have HR1 := am_ hr1; have HC1 := am_ hc1; clear hr1 hc1; have HB := am_ (Below.refl w.heap.size w); have H := h; clear h; unfold aE.f at H
 by_cases c3 : (l0.length : Int) = (l1.length : Int)
 ·rw [if_pos c3] at H; have c3b0 := db c3; have c3b1 := dd c3; have c3b2 : (l0.length == l1.length) = true := by first | simpa using c3 | (simp at c3 ⊢; omega)
  clear c3; have H' := am_ H; clear H; go_enter Tryz.func72, Tryz.ntmps72
  go_wp2; go_loopg [5] k (fun kq v5 w' => ∃ (x5_1 : Int), v5 = .int .i64 x5_1 ∧ aa (aE.l0 kq l0 l1 x5_1 = some r) ∧ aa (kq ≤ k) ∧ aa (Below w.heap.size w w'))
  case atStart => exact ⟨(0), u1_, H', ⟨Nat.le_refl _⟩, ⟨bw_ HB⟩⟩
  case round =>
   clear H'; try clear c1
   try clear c3
   try clear c3b0
   try clear c3b1
   try clear c3b2
   obtain ⟨x5_1, rfl, HA, HK1, HB⟩ := hrel; cases gk with
   | zero => exact absurd HA.out (by simp [aE.l0])
   | succ k1 =>
    have H := HA.out; clear HA; simp only [aE.l0] at H; by_cases c4 : x5_1 < (l0.length : Int)
    ·rw [if_pos c4] at H; have c4b0 := decide_eq_true c4; clear c4; obtain ⟨c5b0, H⟩ := gd_ H; obtain ⟨c6b0, H⟩ := gd_ H; obtain ⟨t528, A7, H⟩ := bi_ H; have HC_ := am_ H; clear H; try go_wp2
     replace HB := am_ (bg HB.out); obtain ⟨ad526, A526_2, c526_2, e526, hx526_0, hx526_1, hx526_2, hl526_2, hi526_2⟩ := dT HR0.out x5_1 od_ od_; have hw526_2 := hx526_2; have hw526_1 := hx526_1; have hw526_0 := hx526_0; cases e526; replace hx526_0 := cb_ HB hx526_0; replace hx526_1 := cb_ HB hx526_1; replace hx526_2 := cb_ HB hx526_2; have HR526_2 := am_ hi526_2; have HC526_2 := am_ hl526_2; clear hi526_2 hl526_2; obtain ⟨p526, q526⟩ := pt_ x5_1 l0.length; obtain ⟨ad527, A527_2, c527_2, e527, hx527_0, hx527_1, hx527_2, hl527_2, hi527_2⟩ := dT HR1.out x5_1 od_ od_; have hw527_2 := hx527_2; have hw527_1 := hx527_1; have hw527_0 := hx527_0; cases e527; replace hx527_0 := cb_ HB hx527_0; replace hx527_1 := cb_ HB hx527_1; replace hx527_2 := cb_ HB hx527_2; have HR527_2 := am_ hi527_2; have HC527_2 := am_ hl527_2; clear hi527_2 hl527_2; obtain ⟨p527, q527⟩ := pt_ x5_1 l1.length; refine cT (n := 10) (S := fun w' => w'.cell? (ad526.add ((x5_1).toNat * 3)) = some (.string ((ax l0 x5_1).f0)) ∧ w'.cell? ⟨(ad526.add ((x5_1).toNat * 3)).block, (ad526.add ((x5_1).toNat * 3)).off + 1, none⟩ = some (.string ((ax l0 x5_1).f1)) ∧ w'.cell? ⟨(ad526.add ((x5_1).toNat * 3)).block, (ad526.add ((x5_1).toNat * 3)).off + 2, none⟩ = some (.slice A526_2 ((ax l0 x5_1).f2).length c526_2) ∧ w'.cell? (ad527.add ((x5_1).toNat * 3)) = some (.string ((ax l1 x5_1).f0)) ∧ w'.cell? ⟨(ad527.add ((x5_1).toNat * 3)).block, (ad527.add ((x5_1).toNat * 3)).off + 1, none⟩ = some (.string ((ax l1 x5_1).f1)) ∧ w'.cell? ⟨(ad527.add ((x5_1).toNat * 3)).block, (ad527.add ((x5_1).toNat * 3)).off + 2, none⟩ = some (.slice A527_2 ((ax l1 x5_1).f2).length c527_2)) (ds := []) (bm_ 10 0) ch rfl rfl ⟨(cc_ HB hw526_0), (cc_ HB hw526_1), (cc_ HB hw526_2), (cc_ HB hw527_0), (cc_ HB hw527_1), (cc_ HB hw527_2)⟩ (fun hHeld => ?_); refine bO aE.tab6 aE.bits6 (fun HT_ HW_ => ?_); generalize wr.drew = w11 at HB HR526_2 HR527_2 hx526_0 hx526_1 hx526_2 hx527_0 hx527_1 hx527_2 hHeld ⊢; refine pv_ 0 17 ?_; refine pv_ 1 18 ?_; refine pv_ 2 19 ?_; refine pv_ 4 21 ?_; refine pv_ 5 22 ?_; refine pv_ 6 23 ?_; refine tv_ 3 20 ?_; refine tv_ 7 24 ?_; refine ov_ 8 25 (fun K hK => ?_); refine oB_ Tryz.func123 (dk.calls k1 ((ax l0 x5_1).f0) ((ax l0 x5_1).f1) _ _ ((ax l0 x5_1).f2) ((ax l1 x5_1).f0) ((ax l1 x5_1).f1) _ _ ((ax l1 x5_1).f2) t528 _ (kc_ HR526_2 HB) HC526_2.out (kc_ HR527_2 HB) HC527_2.out A7.out) ?_; intro w12 hb; replace HB := bs_ HB hb; (try clear hb)
     refine hK.out _ _ ⟨(cc_ HB hw526_0), (cc_ HB hw526_1), (cc_ HB hw526_2), (cc_ HB hw527_0), (cc_ HB hw527_1), (cc_ HB hw527_2)⟩ (fun hHeld => ?_); clear hK K; refine nm_ ?_; refine pv_ 9 26 ?_; refine dn_ HT_ ?_; have H := HC_.out; clear HC_; cases t528
     ·replace H := hf_ H; obtain rfl := si_ H; try go_wp2
      go_ret
      exact ⟨u0_, bw_ HB⟩
     ·replace H := ht_ H; have H' := am_ H; clear H; try go_wp2
      go_roundg k1
      case measure => have := HK1.out; omega
      case rel => exact ⟨(wrap64 (x5_1 + 1)), u1_, H', ⟨du⟩, ⟨bw_ HB⟩⟩
    ·rw [if_neg c4] at H; have c4b0 := decide_eq_false c4; clear c4; obtain rfl := si_ H; go_wp2; go_ret
     exact ⟨u0_, bw_ HB⟩
 ·rw [if_neg c3] at H; have c3b0 := da c3; have c3b1 := dc c3; have c3b2 : (l0.length == l1.length) = false := by first | simpa using c3 | (simp at c3 ⊢; omega)
  obtain rfl := si_ H; go_enter Tryz.func72, Tryz.ntmps72
  go_wp2; go_ret
  exact ⟨u0_, bw_ HB⟩
end Go.Proofs.YtnjjdojonflckaaGreatDoor.PFnExactIndexOk
