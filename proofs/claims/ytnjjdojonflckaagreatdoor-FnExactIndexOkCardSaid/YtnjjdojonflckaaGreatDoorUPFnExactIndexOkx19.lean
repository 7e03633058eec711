/- Contracts of Go functions, each told as a plain Lean function. -/
import Derived.Test.YtnjjdojonflckaaGreatDoorUPFnExactIndexOkx16
namespace Go.Proofs.YtnjjdojonflckaaGreatDoor.PFnExactIndexOk
open Go.RowKit Go.Proofs.YtnjjdojonflckaaGreatDoorW.PrintWords Go.Proofs.YtnjjdojonflckaaGreatDoorW.PrintLast Go.Proofs.YtnjjdojonflckaaGreatDoorW.PrintMore
attribute [local go_sem] bH bF cm cn cK cI b5 b4 ck cl
set_option linter.unusedVariables false
set_option linter.unusedSimpArgs false
set_option maxHeartbeats 8000000
set_option maxRecDepth 100000
def cH.f (k : Nat) (a0_0 : Int) (l0_1 : List Int) (a1_0 : Int) (l1_1 : List Int) : Option (Bool) := if a0_0 = a1_0 then ((ay.f k l0_1 l1_1).bind fun t439 => (some t439)) else (some false)
instance cH.mono (k : Nat) : M4 cH.f k := ⟨by intros; unfold cH.f; exact mo_⟩
theorem cH.calls (k : Nat) (a0_0 : Int) (A0_1 : Option Addr) (c0_1 : Nat) (l0_1 : List Int) (a1_0 : Int) (A1_1 : Option Addr) (c1_1 : Nat) (l1_1 : List Int) (r : Bool) (w : World) (hr0_1 : Kd.C (Kd.int .i64) w A0_1 l0_1.length l0_1) (hc0_1 : l0_1.length ≤ c0_1) (hr1_1 : Kd.C (Kd.int .i64) w A1_1 l1_1.length l1_1) (hc1_1 : l1_1.length ≤ c1_1) (h : cH.f k a0_0 l0_1 a1_0 l1_1 = some r) :
  Calls Tryz.prog 120 #[.agg #[.int .i64 a0_0, .slice A0_1 l0_1.length c0_1], .agg #[.int .i64 a1_0, .slice A1_1 l1_1.length c1_1]] w fun e w' => e = .returned (.bool r) ∧ Below w.heap.size w w' := by
 have hu50 := Tryz.underlying50; have HR0_1 := am_ hr0_1; have HC0_1 := am_ hc0_1; clear hr0_1 hc0_1; have HR1_1 := am_ hr1_1; have HC1_1 := am_ hc1_1; clear hr1_1 hc1_1; have HB := am_ (Below.refl w.heap.size w); have H := h; clear h; unfold cH.f at H
 by_cases c3 : a0_0 = a1_0
 ·rw [if_pos c3] at H; have c3b0 := db c3; have c3b1 := dd c3; clear c3; obtain ⟨t439, A4, H⟩ := bi_ H; obtain rfl := si_ H; go_enter Tryz.func120, Tryz.ntmps120
  go_wp2_with (first | (with_reducible refine gt_ 2 ?_; refine bx_ 2 #[.int .i64 a0_0, .slice A0_1 l0_1.length c0_1] 50 ?_; intro gb437 hg w5 hbox hb; have BK437 := am_ (hbox); have GE437 := gw_ HB hg; replace HB := bs_ HB hb; clear hb hbox hg) | (with_reducible refine gt_ 3 ?_; refine bx_ 3 #[.int .i64 a1_0, .slice A1_1 l1_1.length c1_1] 50 ?_; intro gb438 hg w6 hbox hb; have BK438 := am_ (hbox); have GE438 := gw_ HB hg; replace HB := bs_ HB hb; have NB437_438 := nl_ BK437 hg; have NB438_437 := ng_ BK437 hg; replace BK437 := bb_ BK437 hb; clear hb hbox hg; have hnb7 := NB437_438.out; have hnc7 := NB438_437.out; obtain ⟨hcz8_0, hcz8_1, hfz8_0, hfz8_1⟩ := bW BK437.out; obtain ⟨hcz9_0, hcz9_1, hfz9_0, hfz9_1⟩ := bW BK438.out) | (go_at_call 154; (with_reducible refine (ay.calls k _ _ l0_1 _ _ l1_1 t439 _ (kc_ HR0_1 HB) HC0_1.out (kc_ HR1_1 HB) HC1_1.out A4.out).mono ?_); rintro e w' ⟨rfl, ⟨nd, rfl⟩⟩))
  go_ret
  exact ⟨u0_, bw_ HB⟩
 ·rw [if_neg c3] at H; have c3b0 := da c3; have c3b1 := dc c3; obtain rfl := si_ H; go_enter Tryz.func120, Tryz.ntmps120
  go_wp2_with (first | (with_reducible refine gt_ 2 ?_; refine bx_ 2 #[.int .i64 a0_0, .slice A0_1 l0_1.length c0_1] 50 ?_; intro gb437 hg w10 hbox hb; have BK437 := am_ (hbox); have GE437 := gw_ HB hg; replace HB := bs_ HB hb; clear hb hbox hg) | (with_reducible refine gt_ 3 ?_; refine bx_ 3 #[.int .i64 a1_0, .slice A1_1 l1_1.length c1_1] 50 ?_; intro gb438 hg w11 hbox hb; have BK438 := am_ (hbox); have GE438 := gw_ HB hg; replace HB := bs_ HB hb; have NB437_438 := nl_ BK437 hg; have NB438_437 := ng_ BK437 hg; replace BK437 := bb_ BK437 hb; clear hb hbox hg; have hnb12 := NB437_438.out; have hnc12 := NB438_437.out; obtain ⟨hcz13_0, hcz13_1, hfz13_0, hfz13_1⟩ := bW BK437.out; obtain ⟨hcz14_0, hcz14_1, hfz14_0, hfz14_1⟩ := bW BK438.out))
  go_ret
  exact ⟨u0_, bw_ HB⟩
def b7.l0 : Nat → List (S50) → List (S50) → Int → Int → Option (Bool)
 | 0, _, _, _, _ => none
 | k + 1, x1, x15, x16, x17 => if x17 < x16 then (if 0 ≤ x17 then (if x17 < (x15.length : Int) then (if x17 < (x1.length : Int) then ((cH.f k ((bm x15 x17).f0) ((bm x15 x17).f1) ((bm x1 x17).f0) ((bm x1 x17).f1)).bind fun t444 => (if t444 = true then (b7.l0 k x1 x15 x16 (wrap64 (x17 + 1))) else (some false))) else (none)) else (none)) else (none)) else (some true)
def b7.f (k : Nat) (l0 : List (S50)) (l1 : List (S50)) : Option (Bool) := if (l0.length : Int) = (l1.length : Int) then (b7.l0 k l1 l0 (l0.length : Int) 0) else (some false)
theorem b7.mono_l : ∀ k, M4 b7.l0 k
 | 0 => ⟨cU⟩
 | k + 1 => by have _ := b7.mono_l k; exact ⟨by intros; unfold b7.l0; exact mo_⟩
instance b7.mono (k : Nat) : M2 b7.f k := ⟨by have _ := b7.mono_l k; intros; unfold b7.f; exact mo_⟩
theorem b7.calls (k : Nat) (A0 : Option Addr) (c0 : Nat) (l0 : List (S50)) (A1 : Option Addr) (c1 : Nat) (l1 : List (S50)) (r : Bool) (w : World) (hr0 : Kd.C k50 w A0 l0.length l0) (hc0 : l0.length ≤ c0) (hr1 : Kd.C k50 w A1 l1.length l1) (hc1 : l1.length ≤ c1) (h : b7.f k l0 l1 = some r) :
  Calls Tryz.prog 119 #[.slice A0 l0.length c0, .slice A1 l1.length c1, .func (.func 120) #[] #[]] w fun e w' => e = .returned (.bool r) ∧ Below w.heap.size w w' := by
 have hu50 := Tryz.underlying50; have HR0 := am_ hr0; have HC0 := am_ hc0; clear hr0 hc0; have HR1 := am_ hr1; have HC1 := am_ hc1; clear hr1 hc1; have HB := am_ (Below.refl w.heap.size w); have H := h; clear h; unfold b7.f at H
 by_cases c3 : (l0.length : Int) = (l1.length : Int)
 ·rw [if_pos c3] at H; have c3b0 := db c3; have c3b1 := dd c3; have c3b2 : (l0.length == l1.length) = true := by first | simpa using c3 | (simp at c3 ⊢; omega)
  clear c3; have H' := am_ H; clear H; go_enter Tryz.func119, Tryz.ntmps119
  go_wp2; go_loopg [17] k (fun kq v17 w' => ∃ (x17_1 : Int), v17 = .int .i64 x17_1 ∧ aa (b7.l0 kq l1 l0 (l0.length : Int) x17_1 = some r) ∧ aa (kq ≤ k) ∧ aa (Below w.heap.size w w'))
  case atStart => exact ⟨(0), u1_, H', ⟨Nat.le_refl _⟩, ⟨bw_ HB⟩⟩
  case round =>
   clear H'; try clear c1
   try clear c3
   try clear c3b0
   try clear c3b1
   try clear c3b2
   obtain ⟨x17_1, rfl, HA, HK1, HB⟩ := hrel; cases gk with
   | zero => exact absurd HA.out (by simp [b7.l0])
   | succ k1 =>
    have H := HA.out; clear HA; simp only [b7.l0] at H; by_cases c4 : x17_1 < (l0.length : Int)
    ·rw [if_pos c4] at H; have c4b0 := decide_eq_true c4; clear c4; obtain ⟨c5b0, H⟩ := gd_ H; obtain ⟨c6b0, H⟩ := gd_ H; obtain ⟨c7b0, H⟩ := gd_ H; obtain ⟨t444, A8, H⟩ := bi_ H; cases t444
     ·replace H := hf_ H; obtain rfl := si_ H; obtain ⟨ad440, A440_1, c440_1, e440, hx440_0, hx440_1, hl440_1, hi440_1⟩ := gm HR0.out x17_1 od_ od_; cases e440; replace hx440_0 := cb_ HB hx440_0; replace hx440_1 := cb_ HB hx440_1; have HR440_1 := am_ hi440_1; have HC440_1 := am_ hl440_1; clear hi440_1 hl440_1; obtain ⟨p440, q440⟩ := pt_ x17_1 l0.length; go_wp2_with (first | (with_reducible refine gt_ 8 ?_; refine bx_ 8 #[.int .i64 0, .slice none 0 0] 50 ?_; intro gb441 hg w17 hbox hb; have BK441 := am_ (hbox); have GW441 := gw_ HB hg; have GE441 := GW441; replace HB := bs_ HB hb; clear hb hbox hg; obtain ⟨hcz18_0, hcz18_1, hfz18_0, hfz18_1⟩ := bW BK441.out; obtain ⟨p442, q442⟩ := pq_ x17_1 l1.length; obtain ⟨ad442, A442_1, c442_1, e442, hx442_0, hx442_1, hl442_1, hi442_1⟩ := gm HR1.out x17_1 p442 q442; cases e442; have hn442_0 : ad442.block ≠ gb441 := Nat.ne_of_lt (Nat.lt_of_lt_of_le u73_ GW441.out); have hn442_1 : ad442.block ≠ gb441 := Nat.ne_of_lt (Nat.lt_of_lt_of_le u73_ GW441.out); replace hx442_0 := cb_ HB hx442_0; replace hx442_1 := cb_ HB hx442_1; have HR442_1 := am_ hi442_1; have HC442_1 := am_ hl442_1; clear hi442_1 hl442_1; replace hx442_0 := (be (p := ⟨gb441, 0, none⟩) u63_ (.int .i64 ((bm l0 x17_1).f0))).trans hx442_0; replace hx442_1 := (be (p := ⟨gb441, 0, none⟩) u63_ (.int .i64 ((bm l0 x17_1).f0))).trans hx442_1; replace hx442_0 := (be (p := ⟨gb441, 1, none⟩) u64_ (.slice A440_1 ((bm l0 x17_1).f1).length c440_1)).trans hx442_0; replace hx442_1 := (be (p := ⟨gb441, 1, none⟩) u64_ (.slice A440_1 ((bm l0 x17_1).f1).length c440_1)).trans hx442_1; clear hn442_0 hn442_1; obtain ⟨p442, q442⟩ := tt_ p442 q442) | (with_reducible refine gt_ 9 ?_; refine bx_ 9 #[.int .i64 0, .slice none 0 0] 50 ?_; intro gb443 hg w19 hbox hb; have BK443 := am_ (hbox); have GE443 := gw_ HB hg; replace HB := bs_ HB hb; have NB441_443 := Nb.mk ((by rw [hg]; exact Nat.ne_of_lt (dY (g := gb441) (o := .cells #[.int .i64 ((bm l0 x17_1).f0), .slice A440_1 ((bm l0 x17_1).f1).length c440_1] 50 (0, 0)) u14_) : gb441 ≠ gb443)); have NB443_441 := Nb.mk ((by rw [hg]; exact Nat.ne_of_gt (dY (g := gb441) (o := .cells #[.int .i64 ((bm l0 x17_1).f0), .slice A440_1 ((bm l0 x17_1).f1).length c440_1] 50 (0, 0)) u14_) : gb443 ≠ gb441)); replace BK441 := am_ (bz (g := gb441) (o := .cells #[.int .i64 ((bm l0 x17_1).f0), .slice A440_1 ((bm l0 x17_1).f1).length c440_1] 50 (0, 0)) u14_ hb); clear hb hbox hg; have hnb20 := NB443_441.out; have hnc20 := NB441_443.out; obtain ⟨hcz21_0, hcz21_1, hfz21_0, hfz21_1⟩ := bW BK443.out; obtain ⟨hcz22_0, hcz22_1, hfz22_0, hfz22_1⟩ := bW BK441.out) | ((with_reducible refine eU (_f := 120) rfl ?_); refine mH (some 29) rfl rfl cO Tryz.func120 ch rfl #[.agg #[.int .i64 ((bm l0 x17_1).f0), .slice A440_1 ((bm l0 x17_1).f1).length c440_1], .agg #[.int .i64 ((bm l1 x17_1).f0), .slice A442_1 ((bm l1 x17_1).f1).length c442_1]] rfl u51_ ?_; (with_reducible refine (cH.calls k1 ((bm l0 x17_1).f0) _ _ ((bm l0 x17_1).f1) ((bm l1 x17_1).f0) _ _ ((bm l1 x17_1).f1) false _ ?side1 HC440_1.out ?side3 HC442_1.out A8.out).mono ?_); (case side1 => exact Kd.C_below HR440_1.out (bw_ HB)); (case side3 => exact Kd.C_below HR442_1.out (bw_ HB)); rintro e w23 ⟨rfl, hb⟩; refine ⟨_, rfl, ?_⟩; replace BK441 := bb_ BK441 hb; replace BK443 := am_ (bz (g := gb443) (o := .cells #[.int .i64 ((bm l1 x17_1).f0), .slice A442_1 ((bm l1 x17_1).f1).length c442_1] 50 (0, 0)) u49_ hb); replace HB := bs_ HB hb; (try clear hb)))
      go_ret
      exact ⟨u0_, bw_ HB⟩
     ·replace H := ht_ H; have H' := am_ H; clear H; obtain ⟨ad440, A440_1, c440_1, e440, hx440_0, hx440_1, hl440_1, hi440_1⟩ := gm HR0.out x17_1 od_ od_; cases e440; replace hx440_0 := cb_ HB hx440_0; replace hx440_1 := cb_ HB hx440_1; have HR440_1 := am_ hi440_1; have HC440_1 := am_ hl440_1; clear hi440_1 hl440_1; obtain ⟨p440, q440⟩ := pt_ x17_1 l0.length; go_wp2_with (first | (with_reducible refine gt_ 8 ?_; refine bx_ 8 #[.int .i64 0, .slice none 0 0] 50 ?_; intro gb441 hg w10 hbox hb; have BK441 := am_ (hbox); have GW441 := gw_ HB hg; have GE441 := GW441; replace HB := bs_ HB hb; clear hb hbox hg; obtain ⟨hcz11_0, hcz11_1, hfz11_0, hfz11_1⟩ := bW BK441.out; obtain ⟨p442, q442⟩ := pq_ x17_1 l1.length; obtain ⟨ad442, A442_1, c442_1, e442, hx442_0, hx442_1, hl442_1, hi442_1⟩ := gm HR1.out x17_1 p442 q442; cases e442; have hn442_0 : ad442.block ≠ gb441 := Nat.ne_of_lt (Nat.lt_of_lt_of_le u73_ GW441.out); have hn442_1 : ad442.block ≠ gb441 := Nat.ne_of_lt (Nat.lt_of_lt_of_le u73_ GW441.out); replace hx442_0 := cb_ HB hx442_0; replace hx442_1 := cb_ HB hx442_1; have HR442_1 := am_ hi442_1; have HC442_1 := am_ hl442_1; clear hi442_1 hl442_1; replace hx442_0 := (be (p := ⟨gb441, 0, none⟩) u63_ (.int .i64 ((bm l0 x17_1).f0))).trans hx442_0; replace hx442_1 := (be (p := ⟨gb441, 0, none⟩) u63_ (.int .i64 ((bm l0 x17_1).f0))).trans hx442_1; replace hx442_0 := (be (p := ⟨gb441, 1, none⟩) u64_ (.slice A440_1 ((bm l0 x17_1).f1).length c440_1)).trans hx442_0; replace hx442_1 := (be (p := ⟨gb441, 1, none⟩) u64_ (.slice A440_1 ((bm l0 x17_1).f1).length c440_1)).trans hx442_1; clear hn442_0 hn442_1; obtain ⟨p442, q442⟩ := tt_ p442 q442) | (with_reducible refine gt_ 9 ?_; refine bx_ 9 #[.int .i64 0, .slice none 0 0] 50 ?_; intro gb443 hg w12 hbox hb; have BK443 := am_ (hbox); have GE443 := gw_ HB hg; replace HB := bs_ HB hb; have NB441_443 := Nb.mk ((by rw [hg]; exact Nat.ne_of_lt (dY (g := gb441) (o := .cells #[.int .i64 ((bm l0 x17_1).f0), .slice A440_1 ((bm l0 x17_1).f1).length c440_1] 50 (0, 0)) u14_) : gb441 ≠ gb443)); have NB443_441 := Nb.mk ((by rw [hg]; exact Nat.ne_of_gt (dY (g := gb441) (o := .cells #[.int .i64 ((bm l0 x17_1).f0), .slice A440_1 ((bm l0 x17_1).f1).length c440_1] 50 (0, 0)) u14_) : gb443 ≠ gb441)); replace BK441 := am_ (bz (g := gb441) (o := .cells #[.int .i64 ((bm l0 x17_1).f0), .slice A440_1 ((bm l0 x17_1).f1).length c440_1] 50 (0, 0)) u14_ hb); clear hb hbox hg; have hnb13 := NB443_441.out; have hnc13 := NB441_443.out; obtain ⟨hcz14_0, hcz14_1, hfz14_0, hfz14_1⟩ := bW BK443.out; obtain ⟨hcz15_0, hcz15_1, hfz15_0, hfz15_1⟩ := bW BK441.out) | ((with_reducible refine eU (_f := 120) rfl ?_); refine mH (some 29) rfl rfl cO Tryz.func120 ch rfl #[.agg #[.int .i64 ((bm l0 x17_1).f0), .slice A440_1 ((bm l0 x17_1).f1).length c440_1], .agg #[.int .i64 ((bm l1 x17_1).f0), .slice A442_1 ((bm l1 x17_1).f1).length c442_1]] rfl u51_ ?_; (with_reducible refine (cH.calls k1 ((bm l0 x17_1).f0) _ _ ((bm l0 x17_1).f1) ((bm l1 x17_1).f0) _ _ ((bm l1 x17_1).f1) true _ ?side1 HC440_1.out ?side3 HC442_1.out A8.out).mono ?_); (case side1 => exact Kd.C_below HR440_1.out (bw_ HB)); (case side3 => exact Kd.C_below HR442_1.out (bw_ HB)); rintro e w16 ⟨rfl, hb⟩; refine ⟨_, rfl, ?_⟩; replace BK441 := bb_ BK441 hb; replace BK443 := am_ (bz (g := gb443) (o := .cells #[.int .i64 ((bm l1 x17_1).f0), .slice A442_1 ((bm l1 x17_1).f1).length c442_1] 50 (0, 0)) u49_ hb); replace HB := bs_ HB hb; (try clear hb)))
      go_roundg k1
      case measure => have := HK1.out; omega
      case rel => exact ⟨(wrap64 (x17_1 + 1)), u1_, H', ⟨du⟩, ⟨bw_ HB⟩⟩
    ·rw [if_neg c4] at H; have c4b0 := decide_eq_false c4; clear c4; obtain rfl := si_ H; go_wp2; go_ret
     exact ⟨u0_, bw_ HB⟩
 ·rw [if_neg c3] at H; have c3b0 := da c3; have c3b1 := dc c3; have c3b2 : (l0.length == l1.length) = false := by first | simpa using c3 | (simp at c3 ⊢; omega)
  obtain rfl := si_ H; go_enter Tryz.func119, Tryz.ntmps119
  go_wp2; go_ret
  exact ⟨u0_, bw_ HB⟩
def cw.f (k : Nat) (a0_0 : ByteArray) (a0_1 : ByteArray) (l0_2 : List (S50)) (a1_0 : ByteArray) (a1_1 : ByteArray) (l1_2 : List (S50)) : Option (Bool) := if a0_0.toList = a1_0.toList then (if a0_1.toList = a1_1.toList then ((b7.f k l0_2 l1_2).bind fun t447 => (some t447)) else (some false)) else (some false)
instance cw.mono (k : Nat) : M6 cw.f k := ⟨by intros; unfold cw.f; exact mo_⟩
theorem cw.calls (k : Nat) (a0_0 : ByteArray) (a0_1 : ByteArray) (A0_2 : Option Addr) (c0_2 : Nat) (l0_2 : List (S50)) (a1_0 : ByteArray) (a1_1 : ByteArray) (A1_2 : Option Addr) (c1_2 : Nat) (l1_2 : List (S50)) (r : Bool) (w : World) (hr0_2 : Kd.C k50 w A0_2 l0_2.length l0_2) (hc0_2 : l0_2.length ≤ c0_2) (hr1_2 : Kd.C k50 w A1_2 l1_2.length l1_2) (hc1_2 : l1_2.length ≤ c1_2) (h : cw.f k a0_0 a0_1 l0_2 a1_0 a1_1 l1_2 = some r) :
  Calls Tryz.prog 69 #[.agg #[.string a0_0, .string a0_1, .slice A0_2 l0_2.length c0_2], .agg #[.string a1_0, .string a1_1, .slice A1_2 l1_2.length c1_2]] w fun e w' => e = .returned (.bool r) ∧ Below w.heap.size w w' := by
 have hu76 := Tryz.underlying76; have HR0_2 := am_ hr0_2; have HC0_2 := am_ hc0_2; clear hr0_2 hc0_2; have HR1_2 := am_ hr1_2; have HC1_2 := am_ hc1_2; clear hr1_2 hc1_2; have HB := am_ (Below.refl w.heap.size w); have H := h; clear h; unfold cw.f at H
 by_cases c3 : a0_0.toList = a1_0.toList
 ·rw [if_pos c3] at H; have c3b0 := db c3; have c3b1 := dd c3; clear c3; by_cases c4 : a0_1.toList = a1_1.toList
  ·rw [if_pos c4] at H; have c4b0 := db c4; have c4b1 := dd c4; clear c4; obtain ⟨t447, A5, H⟩ := bi_ H; obtain rfl := si_ H; go_enter Tryz.func69, Tryz.ntmps69
   go_wp2_with (first | (with_reducible refine gt_ 2 ?_; refine bx_ 2 #[.string a0_0, .string a0_1, .slice A0_2 l0_2.length c0_2] 76 ?_; intro gb445 hg w6 hbox hb; have BK445 := am_ (hbox); have GE445 := gw_ HB hg; replace HB := bs_ HB hb; clear hb hbox hg) | (with_reducible refine gt_ 3 ?_; refine bx_ 3 #[.string a1_0, .string a1_1, .slice A1_2 l1_2.length c1_2] 76 ?_; intro gb446 hg w7 hbox hb; have BK446 := am_ (hbox); have GE446 := gw_ HB hg; replace HB := bs_ HB hb; have NB445_446 := nl_ BK445 hg; have NB446_445 := ng_ BK445 hg; replace BK445 := bb_ BK445 hb; clear hb hbox hg; have hnb8 := NB445_446.out; have hnc8 := NB446_445.out; obtain ⟨hcz9_0, hcz9_1, hcz9_2, hfz9_0, hfz9_1, hfz9_2⟩ := bX BK445.out; obtain ⟨hcz10_0, hcz10_1, hcz10_2, hfz10_0, hfz10_1, hfz10_2⟩ := bX BK446.out) | (go_at_call 119; (with_reducible refine (b7.calls k _ _ l0_2 _ _ l1_2 t447 _ (kc_ HR0_2 HB) HC0_2.out (kc_ HR1_2 HB) HC1_2.out A5.out).mono ?_); rintro e w11 ⟨rfl, hb⟩; replace BK445 := bb_ BK445 hb; replace BK446 := bb_ BK446 hb; replace HB := bs_ HB hb; (try clear hb)))
   go_ret
   exact ⟨u0_, bw_ HB⟩
  ·rw [if_neg c4] at H; have c4b0 := da c4; have c4b1 := dc c4; obtain rfl := si_ H; go_enter Tryz.func69, Tryz.ntmps69
   go_wp2_with (first | (with_reducible refine gt_ 2 ?_; refine bx_ 2 #[.string a0_0, .string a0_1, .slice A0_2 l0_2.length c0_2] 76 ?_; intro gb445 hg w12 hbox hb; have BK445 := am_ (hbox); have GE445 := gw_ HB hg; replace HB := bs_ HB hb; clear hb hbox hg) | (with_reducible refine gt_ 3 ?_; refine bx_ 3 #[.string a1_0, .string a1_1, .slice A1_2 l1_2.length c1_2] 76 ?_; intro gb446 hg w13 hbox hb; have BK446 := am_ (hbox); have GE446 := gw_ HB hg; replace HB := bs_ HB hb; have NB445_446 := nl_ BK445 hg; have NB446_445 := ng_ BK445 hg; replace BK445 := bb_ BK445 hb; clear hb hbox hg; have hnb14 := NB445_446.out; have hnc14 := NB446_445.out; obtain ⟨hcz15_0, hcz15_1, hcz15_2, hfz15_0, hfz15_1, hfz15_2⟩ := bX BK445.out; obtain ⟨hcz16_0, hcz16_1, hcz16_2, hfz16_0, hfz16_1, hfz16_2⟩ := bX BK446.out))
   go_ret
   exact ⟨u0_, bw_ HB⟩
 ·rw [if_neg c3] at H; have c3b0 := da c3; have c3b1 := dc c3; obtain rfl := si_ H; go_enter Tryz.func69, Tryz.ntmps69
  go_wp2_with (first | (with_reducible refine gt_ 2 ?_; refine bx_ 2 #[.string a0_0, .string a0_1, .slice A0_2 l0_2.length c0_2] 76 ?_; intro gb445 hg w17 hbox hb; have BK445 := am_ (hbox); have GE445 := gw_ HB hg; replace HB := bs_ HB hb; clear hb hbox hg) | (with_reducible refine gt_ 3 ?_; refine bx_ 3 #[.string a1_0, .string a1_1, .slice A1_2 l1_2.length c1_2] 76 ?_; intro gb446 hg w18 hbox hb; have BK446 := am_ (hbox); have GE446 := gw_ HB hg; replace HB := bs_ HB hb; have NB445_446 := nl_ BK445 hg; have NB446_445 := ng_ BK445 hg; replace BK445 := bb_ BK445 hb; clear hb hbox hg; have hnb19 := NB445_446.out; have hnc19 := NB446_445.out; obtain ⟨hcz20_0, hcz20_1, hcz20_2, hfz20_0, hfz20_1, hfz20_2⟩ := bX BK445.out; obtain ⟨hcz21_0, hcz21_1, hcz21_2, hfz21_0, hfz21_1, hfz21_2⟩ := bX BK446.out))
  go_ret
  exact ⟨u0_, bw_ HB⟩
def bS.l0 : Nat → List (S76) → List (S76) → Int → Int → Option (Bool)
 | 0, _, _, _, _ => none
 | k + 1, x1, x15, x16, x17 => if x17 < x16 then (if 0 ≤ x17 then (if x17 < (x15.length : Int) then (if x17 < (x1.length : Int) then ((cw.f k ((ax x15 x17).f0) ((ax x15 x17).f1) ((ax x15 x17).f2) ((ax x1 x17).f0) ((ax x1 x17).f1) ((ax x1 x17).f2)).bind fun t452 => (if t452 = true then (bS.l0 k x1 x15 x16 (wrap64 (x17 + 1))) else (some false))) else (none)) else (none)) else (none)) else (some true)
def bS.f (k : Nat) (l0 : List (S76)) (l1 : List (S76)) : Option (Bool) := if (l0.length : Int) = (l1.length : Int) then (bS.l0 k l1 l0 (l0.length : Int) 0) else (some false)
theorem bS.mono_l : ∀ k, M4 bS.l0 k
 | 0 => ⟨cU⟩
 | k + 1 => by have _ := bS.mono_l k; exact ⟨by intros; unfold bS.l0; exact mo_⟩
instance bS.mono (k : Nat) : M2 bS.f k := ⟨by have _ := bS.mono_l k; intros; unfold bS.f; exact mo_⟩
theorem bS.calls (k : Nat) (A0 : Option Addr) (c0 : Nat) (l0 : List (S76)) (A1 : Option Addr) (c1 : Nat) (l1 : List (S76)) (r : Bool) (w : World) (hr0 : Kd.C k76 w A0 l0.length l0) (hc0 : l0.length ≤ c0) (hr1 : Kd.C k76 w A1 l1.length l1) (hc1 : l1.length ≤ c1) (h : bS.f k l0 l1 = some r) :
  Calls Tryz.prog 67 #[.slice A0 l0.length c0, .slice A1 l1.length c1, .func (.func 69) #[] #[]] w fun e w' => e = .returned (.bool r) ∧ Below w.heap.size w w' := by
 have hu76 := Tryz.underlying76; have HR0 := am_ hr0; have HC0 := am_ hc0; clear hr0 hc0; have HR1 := am_ hr1; have HC1 := am_ hc1; clear hr1 hc1; have HB := am_ (Below.refl w.heap.size w); have H := h; clear h; unfold bS.f at H
 by_cases c3 : (l0.length : Int) = (l1.length : Int)
 ·rw [if_pos c3] at H; have c3b0 := db c3; have c3b1 := dd c3; have c3b2 : (l0.length == l1.length) = true := by first | simpa using c3 | (simp at c3 ⊢; omega)
  clear c3; have H' := am_ H; clear H; go_enter Tryz.func67, Tryz.ntmps67
  go_wp2; go_loopg [17] k (fun kq v17 w' => ∃ (x17_1 : Int), v17 = .int .i64 x17_1 ∧ aa (bS.l0 kq l1 l0 (l0.length : Int) x17_1 = some r) ∧ aa (kq ≤ k) ∧ aa (Below w.heap.size w w'))
  case atStart => exact ⟨(0), u1_, H', ⟨Nat.le_refl _⟩, ⟨bw_ HB⟩⟩
  case round =>
   clear H'; try clear c1
   try clear c3
   try clear c3b0
   try clear c3b1
   try clear c3b2
   obtain ⟨x17_1, rfl, HA, HK1, HB⟩ := hrel; cases gk with
   | zero => exact absurd HA.out (by simp [bS.l0])
   | succ k1 =>
    have H := HA.out; clear HA; simp only [bS.l0] at H; by_cases c4 : x17_1 < (l0.length : Int)
    ·rw [if_pos c4] at H; have c4b0 := decide_eq_true c4; clear c4; obtain ⟨c5b0, H⟩ := gd_ H; obtain ⟨c6b0, H⟩ := gd_ H; obtain ⟨c7b0, H⟩ := gd_ H; obtain ⟨t452, A8, H⟩ := bi_ H; cases t452
     ·replace H := hf_ H; obtain rfl := si_ H; obtain ⟨ad448, A448_2, c448_2, e448, hx448_0, hx448_1, hx448_2, hl448_2, hi448_2⟩ := dT HR0.out x17_1 od_ od_; cases e448; replace hx448_0 := cb_ HB hx448_0; replace hx448_1 := cb_ HB hx448_1; replace hx448_2 := cb_ HB hx448_2; have HR448_2 := am_ hi448_2; have HC448_2 := am_ hl448_2; clear hi448_2 hl448_2; obtain ⟨p448, q448⟩ := pt_ x17_1 l0.length; go_wp2_with (first | (with_reducible refine gt_ 8 ?_; refine bx_ 8 #[.string (⟨#[]⟩ : ByteArray), .string (⟨#[]⟩ : ByteArray), .slice none 0 0] 76 ?_; intro gb449 hg w17 hbox hb; have BK449 := am_ (hbox); have GW449 := gw_ HB hg; have GE449 := GW449; replace HB := bs_ HB hb; clear hb hbox hg; obtain ⟨hcz18_0, hcz18_1, hcz18_2, hfz18_0, hfz18_1, hfz18_2⟩ := bX BK449.out; obtain ⟨p450, q450⟩ := pq_ x17_1 l1.length; obtain ⟨ad450, A450_2, c450_2, e450, hx450_0, hx450_1, hx450_2, hl450_2, hi450_2⟩ := dT HR1.out x17_1 p450 q450; cases e450; have hn450_0 : ad450.block ≠ gb449 := Nat.ne_of_lt (Nat.lt_of_lt_of_le u50_ GW449.out); have hn450_1 : ad450.block ≠ gb449 := Nat.ne_of_lt (Nat.lt_of_lt_of_le u50_ GW449.out); have hn450_2 : ad450.block ≠ gb449 := Nat.ne_of_lt (Nat.lt_of_lt_of_le u50_ GW449.out); replace hx450_0 := cb_ HB hx450_0; replace hx450_1 := cb_ HB hx450_1; replace hx450_2 := cb_ HB hx450_2; have HR450_2 := am_ hi450_2; have HC450_2 := am_ hl450_2; clear hi450_2 hl450_2; replace hx450_0 := (be (p := ⟨gb449, 0, none⟩) u38_ (.string ((ax l0 x17_1).f0))).trans hx450_0; replace hx450_1 := (be (p := ⟨gb449, 0, none⟩) u38_ (.string ((ax l0 x17_1).f0))).trans hx450_1; replace hx450_2 := (be (p := ⟨gb449, 0, none⟩) u38_ (.string ((ax l0 x17_1).f0))).trans hx450_2; replace hx450_0 := (be (p := ⟨gb449, 1, none⟩) u39_ (.string ((ax l0 x17_1).f1))).trans hx450_0; replace hx450_1 := (be (p := ⟨gb449, 1, none⟩) u39_ (.string ((ax l0 x17_1).f1))).trans hx450_1; replace hx450_2 := (be (p := ⟨gb449, 1, none⟩) u39_ (.string ((ax l0 x17_1).f1))).trans hx450_2; replace hx450_0 := (be (p := ⟨gb449, 2, none⟩) u40_ (.slice A448_2 ((ax l0 x17_1).f2).length c448_2)).trans hx450_0; replace hx450_1 := (be (p := ⟨gb449, 2, none⟩) u40_ (.slice A448_2 ((ax l0 x17_1).f2).length c448_2)).trans hx450_1; replace hx450_2 := (be (p := ⟨gb449, 2, none⟩) u40_ (.slice A448_2 ((ax l0 x17_1).f2).length c448_2)).trans hx450_2; clear hn450_0 hn450_1 hn450_2; obtain ⟨p450, q450⟩ := tt_ p450 q450) | (with_reducible refine gt_ 9 ?_; refine bx_ 9 #[.string (⟨#[]⟩ : ByteArray), .string (⟨#[]⟩ : ByteArray), .slice none 0 0] 76 ?_; intro gb451 hg w19 hbox hb; have BK451 := am_ (hbox); have GE451 := gw_ HB hg; replace HB := bs_ HB hb; have NB449_451 := Nb.mk ((by rw [hg]; exact Nat.ne_of_lt (dY (g := gb449) (o := .cells #[.string ((ax l0 x17_1).f0), .string ((ax l0 x17_1).f1), .slice A448_2 ((ax l0 x17_1).f2).length c448_2] 76 (0, 0)) u6_) : gb449 ≠ gb451)); have NB451_449 := Nb.mk ((by rw [hg]; exact Nat.ne_of_gt (dY (g := gb449) (o := .cells #[.string ((ax l0 x17_1).f0), .string ((ax l0 x17_1).f1), .slice A448_2 ((ax l0 x17_1).f2).length c448_2] 76 (0, 0)) u6_) : gb451 ≠ gb449)); replace BK449 := am_ (bz (g := gb449) (o := .cells #[.string ((ax l0 x17_1).f0), .string ((ax l0 x17_1).f1), .slice A448_2 ((ax l0 x17_1).f2).length c448_2] 76 (0, 0)) u6_ hb); clear hb hbox hg; have hnb20 := NB451_449.out; have hnc20 := NB449_451.out; obtain ⟨hcz21_0, hcz21_1, hcz21_2, hfz21_0, hfz21_1, hfz21_2⟩ := bX BK451.out; obtain ⟨hcz22_0, hcz22_1, hcz22_2, hfz22_0, hfz22_1, hfz22_2⟩ := bX BK449.out) | ((with_reducible refine eU (_f := 69) rfl ?_); refine mH (some 29) rfl rfl cO Tryz.func69 ch rfl #[.agg #[.string ((ax l0 x17_1).f0), .string ((ax l0 x17_1).f1), .slice A448_2 ((ax l0 x17_1).f2).length c448_2], .agg #[.string ((ax l1 x17_1).f0), .string ((ax l1 x17_1).f1), .slice A450_2 ((ax l1 x17_1).f2).length c450_2]] rfl u51_ ?_; (with_reducible refine (cw.calls k1 ((ax l0 x17_1).f0) ((ax l0 x17_1).f1) _ _ ((ax l0 x17_1).f2) ((ax l1 x17_1).f0) ((ax l1 x17_1).f1) _ _ ((ax l1 x17_1).f2) false _ ?side1 HC448_2.out ?side3 HC450_2.out A8.out).mono ?_); (case side1 => exact Kd.C_below HR448_2.out (bw_ HB)); (case side3 => exact Kd.C_below HR450_2.out (bw_ HB)); rintro e w23 ⟨rfl, hb⟩; refine ⟨_, rfl, ?_⟩; replace BK449 := bb_ BK449 hb; replace BK451 := am_ (bz (g := gb451) (o := .cells #[.string ((ax l1 x17_1).f0), .string ((ax l1 x17_1).f1), .slice A450_2 ((ax l1 x17_1).f2).length c450_2] 76 (0, 0)) u25_ hb); replace HB := bs_ HB hb; (try clear hb)))
      go_ret
      exact ⟨u0_, bw_ HB⟩
     ·replace H := ht_ H; have H' := am_ H; clear H; obtain ⟨ad448, A448_2, c448_2, e448, hx448_0, hx448_1, hx448_2, hl448_2, hi448_2⟩ := dT HR0.out x17_1 od_ od_; cases e448; replace hx448_0 := cb_ HB hx448_0; replace hx448_1 := cb_ HB hx448_1; replace hx448_2 := cb_ HB hx448_2; have HR448_2 := am_ hi448_2; have HC448_2 := am_ hl448_2; clear hi448_2 hl448_2; obtain ⟨p448, q448⟩ := pt_ x17_1 l0.length; go_wp2_with (first | (with_reducible refine gt_ 8 ?_; refine bx_ 8 #[.string (⟨#[]⟩ : ByteArray), .string (⟨#[]⟩ : ByteArray), .slice none 0 0] 76 ?_; intro gb449 hg w10 hbox hb; have BK449 := am_ (hbox); have GW449 := gw_ HB hg; have GE449 := GW449; replace HB := bs_ HB hb; clear hb hbox hg; obtain ⟨hcz11_0, hcz11_1, hcz11_2, hfz11_0, hfz11_1, hfz11_2⟩ := bX BK449.out; obtain ⟨p450, q450⟩ := pq_ x17_1 l1.length; obtain ⟨ad450, A450_2, c450_2, e450, hx450_0, hx450_1, hx450_2, hl450_2, hi450_2⟩ := dT HR1.out x17_1 p450 q450; cases e450; have hn450_0 : ad450.block ≠ gb449 := Nat.ne_of_lt (Nat.lt_of_lt_of_le u50_ GW449.out); have hn450_1 : ad450.block ≠ gb449 := Nat.ne_of_lt (Nat.lt_of_lt_of_le u50_ GW449.out); have hn450_2 : ad450.block ≠ gb449 := Nat.ne_of_lt (Nat.lt_of_lt_of_le u50_ GW449.out); replace hx450_0 := cb_ HB hx450_0; replace hx450_1 := cb_ HB hx450_1; replace hx450_2 := cb_ HB hx450_2; have HR450_2 := am_ hi450_2; have HC450_2 := am_ hl450_2; clear hi450_2 hl450_2; replace hx450_0 := (be (p := ⟨gb449, 0, none⟩) u38_ (.string ((ax l0 x17_1).f0))).trans hx450_0; replace hx450_1 := (be (p := ⟨gb449, 0, none⟩) u38_ (.string ((ax l0 x17_1).f0))).trans hx450_1; replace hx450_2 := (be (p := ⟨gb449, 0, none⟩) u38_ (.string ((ax l0 x17_1).f0))).trans hx450_2; replace hx450_0 := (be (p := ⟨gb449, 1, none⟩) u39_ (.string ((ax l0 x17_1).f1))).trans hx450_0; replace hx450_1 := (be (p := ⟨gb449, 1, none⟩) u39_ (.string ((ax l0 x17_1).f1))).trans hx450_1; replace hx450_2 := (be (p := ⟨gb449, 1, none⟩) u39_ (.string ((ax l0 x17_1).f1))).trans hx450_2; replace hx450_0 := (be (p := ⟨gb449, 2, none⟩) u40_ (.slice A448_2 ((ax l0 x17_1).f2).length c448_2)).trans hx450_0; replace hx450_1 := (be (p := ⟨gb449, 2, none⟩) u40_ (.slice A448_2 ((ax l0 x17_1).f2).length c448_2)).trans hx450_1; replace hx450_2 := (be (p := ⟨gb449, 2, none⟩) u40_ (.slice A448_2 ((ax l0 x17_1).f2).length c448_2)).trans hx450_2; clear hn450_0 hn450_1 hn450_2; obtain ⟨p450, q450⟩ := tt_ p450 q450) | (with_reducible refine gt_ 9 ?_; refine bx_ 9 #[.string (⟨#[]⟩ : ByteArray), .string (⟨#[]⟩ : ByteArray), .slice none 0 0] 76 ?_; intro gb451 hg w12 hbox hb; have BK451 := am_ (hbox); have GE451 := gw_ HB hg; replace HB := bs_ HB hb; have NB449_451 := Nb.mk ((by rw [hg]; exact Nat.ne_of_lt (dY (g := gb449) (o := .cells #[.string ((ax l0 x17_1).f0), .string ((ax l0 x17_1).f1), .slice A448_2 ((ax l0 x17_1).f2).length c448_2] 76 (0, 0)) u6_) : gb449 ≠ gb451)); have NB451_449 := Nb.mk ((by rw [hg]; exact Nat.ne_of_gt (dY (g := gb449) (o := .cells #[.string ((ax l0 x17_1).f0), .string ((ax l0 x17_1).f1), .slice A448_2 ((ax l0 x17_1).f2).length c448_2] 76 (0, 0)) u6_) : gb451 ≠ gb449)); replace BK449 := am_ (bz (g := gb449) (o := .cells #[.string ((ax l0 x17_1).f0), .string ((ax l0 x17_1).f1), .slice A448_2 ((ax l0 x17_1).f2).length c448_2] 76 (0, 0)) u6_ hb); clear hb hbox hg; have hnb13 := NB451_449.out; have hnc13 := NB449_451.out; obtain ⟨hcz14_0, hcz14_1, hcz14_2, hfz14_0, hfz14_1, hfz14_2⟩ := bX BK451.out; obtain ⟨hcz15_0, hcz15_1, hcz15_2, hfz15_0, hfz15_1, hfz15_2⟩ := bX BK449.out) | ((with_reducible refine eU (_f := 69) rfl ?_); refine mH (some 29) rfl rfl cO Tryz.func69 ch rfl #[.agg #[.string ((ax l0 x17_1).f0), .string ((ax l0 x17_1).f1), .slice A448_2 ((ax l0 x17_1).f2).length c448_2], .agg #[.string ((ax l1 x17_1).f0), .string ((ax l1 x17_1).f1), .slice A450_2 ((ax l1 x17_1).f2).length c450_2]] rfl u51_ ?_; (with_reducible refine (cw.calls k1 ((ax l0 x17_1).f0) ((ax l0 x17_1).f1) _ _ ((ax l0 x17_1).f2) ((ax l1 x17_1).f0) ((ax l1 x17_1).f1) _ _ ((ax l1 x17_1).f2) true _ ?side1 HC448_2.out ?side3 HC450_2.out A8.out).mono ?_); (case side1 => exact Kd.C_below HR448_2.out (bw_ HB)); (case side3 => exact Kd.C_below HR450_2.out (bw_ HB)); rintro e w16 ⟨rfl, hb⟩; refine ⟨_, rfl, ?_⟩; replace BK449 := bb_ BK449 hb; replace BK451 := am_ (bz (g := gb451) (o := .cells #[.string ((ax l1 x17_1).f0), .string ((ax l1 x17_1).f1), .slice A450_2 ((ax l1 x17_1).f2).length c450_2] 76 (0, 0)) u25_ hb); replace HB := bs_ HB hb; (try clear hb)))
      go_roundg k1
      case measure => have := HK1.out; omega
      case rel => exact ⟨(wrap64 (x17_1 + 1)), u1_, H', ⟨du⟩, ⟨bw_ HB⟩⟩
    ·rw [if_neg c4] at H; have c4b0 := decide_eq_false c4; clear c4; obtain rfl := si_ H; go_wp2; go_ret
     exact ⟨u0_, bw_ HB⟩
 ·rw [if_neg c3] at H; have c3b0 := da c3; have c3b1 := dc c3; have c3b2 : (l0.length == l1.length) = false := by first | simpa using c3 | (simp at c3 ⊢; omega)
  obtain rfl := si_ H; go_enter Tryz.func67, Tryz.ntmps67
  go_wp2; go_ret
  exact ⟨u0_, bw_ HB⟩
def dh.f (a0 : Int) : Option (Bool) := if a0 ≥ 65 then (some (decide (a0 ≤ 90))) else (some false)
theorem dh.calls (a0 : Int) (r : Bool) (w : World) (h : dh.f a0 = some r) :
  Calls Tryz.prog 132 #[.int .u8 a0] w fun e w' => e = .returned (.bool r) ∧ Drawn0 w w' := by
 have H := h; clear h; unfold dh.f at H
 by_cases c2 : a0 ≥ 65
 ·rw [if_pos c2] at H; have c2b0 : decide (65 ≤ a0) = true := decide_eq_true c2; clear c2; obtain rfl := si_ H; go_enter Tryz.func132, Tryz.ntmps132
  go_wp2; go_ret
  exact ⟨u4_, u3_⟩
 ·rw [if_neg c2] at H; have c2b0 : decide (65 ≤ a0) = false := decide_eq_false c2; clear c2; obtain rfl := si_ H; go_enter Tryz.func132, Tryz.ntmps132
  go_wp2; go_ret
  exact ⟨u4_, u3_⟩
def dF (c : Int) : Int := if 65 ≤ c ∧ c ≤ 90 then c + 32 else c
def eR.f (a0 : ByteArray) : Option (ByteArray) := if a0.size ≤ 70368744177664 then some (strOfNums ((au a0).map dF)) else none
def Buf8 (W : World) (B : Nat) (xs : List Int) : Prop := ∀ j, j < xs.length → W.cell? ⟨B, j, none⟩ = some (.int .u8 (xs.getD j 0)) ∧ W.frozen? ⟨B, j, none⟩ = false
theorem Buf8.set {W : World} {B : Nat} {xs : List Int} (h : Buf8 W B xs) (i : Nat) (v : Int) : Buf8 (W.setCell ⟨B, i, none⟩ (.int .u8 v)) B (xs.set i v) := by
 intro j hj; rw [List.length_set] at hj; have hc := h j hj; refine ⟨?_, by rw [World.frozen?_setCell]; exact hc.2⟩; by_cases e : i = j
 ·subst e; rw [World.cell?_setCell_same _ _ _ hc.1]; simp [List.getD_eq_getElem?_getD, hj]
 ·rw [World.cell?_setCell_other _ _ _ _ (by simp [e]), hc.1]; simp [List.getD_eq_getElem?_getD, List.getElem?_set_ne e]
theorem Buf8.drewN {W : World} {B : Nat} {xs : List Int} (h : Buf8 W B xs) (n : Nat) : Buf8 (W.drewN n) B xs := h
theorem pt (W : World) (e : TypeId) (s : ByteArray) : Buf8 (Lib.bytesWorld W e s) W.heap.size (au s) := by
 intro j hj; rw [b6] at hj; constructor
 ·rw [Lib.bytesWorld_cell W e s j hj]; have h' : j < s.data.toList.length := by rw [fD]; exact hj
  simp [au, List.getD_eq_getElem?_getD, List.getElem?_eq_getElem h']
 ·unfold World.frozen?
  rw [Lib.bytesWorld_at_new]; have h1 : s.size ≤ (Lib.bytesCells W e s).size := by
   unfold Lib.bytesCells
   rw [Array.size_append, Array.size_map]; exact Nat.le_add_right _ _
  show (decide ((Lib.bytesCells W e s).size ≤ j) && decide (j < (Lib.bytesCells W e s).size + 1)) = false
  rw [decide_eq_false aA]; rfl
theorem l8 (l : List Int) (k : Nat) (h : k < l.length) : (l.take (k + 1)).map dF = (l.take k).map dF ++ [dF l[k]] := by
 rw [List.take_add_one, List.getElem?_eq_getElem h, List.map_append]; rfl
theorem gh (l : List Int) (k : Nat) (h : k ≤ l.length) : ((l.take k).map dF).length = k := by
 rw [List.length_map, List.length_take]; omega
theorem q8 (l : List Int) (k : Nat) (h : k < l.length) : ((l.take k).map dF ++ l.drop k).getD k 0 = l[k] := by
 rw [List.getD_eq_getElem?_getD, List.getElem?_append_right (by rw [gh l k aA]; exact Nat.le_refl _), gh l k aA, Nat.sub_self, List.drop_eq_getElem_cons h]; rfl
theorem qP (l : List Int) (k : Nat) (h : k < l.length) (v : Int) (hv : dF l[k] = v) : ((l.take k).map dF ++ l.drop k).set k v = (l.take (k + 1)).map dF ++ l.drop (k + 1) := by
 rw [List.set_append_right _ _ (by rw [gh l k aA]; exact Nat.le_refl _), gh l k aA, Nat.sub_self, l8 l k h, List.drop_eq_getElem_cons h, List.append_assoc, hv]; rfl
theorem pJ (l : List Int) (k : Nat) (h : k < l.length) (hv : dF l[k] = l[k]) : (l.take k).map dF ++ l.drop k = (l.take (k + 1)).map dF ++ l.drop (k + 1) := by
 rw [l8 l k h, List.drop_eq_getElem_cons h, List.append_assoc, hv]; rfl
theorem rx (l : List Int) : (l.take l.length).map dF ++ l.drop l.length = l.map dF := by
 rw [List.take_length, List.drop_length, List.append_nil]
theorem nP (c : Int) : dh.f c = some (decide (65 ≤ c ∧ c ≤ 90)) := by
 unfold dh.f
 by_cases h : c ≥ 65
 ·rw [if_pos h]; congr 1; exact decide_eq_decide.2 aA
 ·rw [if_neg h]; congr 1; symm; exact decide_eq_false aA
set_option maxHeartbeats 2000000 in
theorem eR.calls (a0 : ByteArray) (r : ByteArray) (w : World) (h : eR.f a0 = some r) :
  Calls Tryz.prog 91 #[.string a0] w fun e w' => e = .returned (.string r) ∧ Below w.heap.size w w' := by
 unfold eR.f at h
 by_cases hs : a0.size ≤ 70368744177664
 case neg => rw [if_neg hs] at h; exact absurd h dg
 rw [if_pos hs] at h; have HR := am_ (Option.some.inj h); clear h; have hlen := b6 a0; have HL := am_ hlen; clear hlen; have kb := m9 (P := Tryz.prog) 9 22 5 Tryz.underlying9 Tryz.underlying22 Tryz.underlying5 a0 w; go_enter Tryz.func91, Tryz.ntmps91
 go_wp2; go_loopw [10] (fun i wr => ∃ k : Nat, k ≤ a0.size ∧ i = .int .i64 k ∧ aa (Buf8 wr w.heap.size (((au a0).take k).map dF ++ (au a0).drop k)) ∧ aa (Below w.heap.size w wr)) (fun i _ => a0.size - (intOf i).toNat)
 case atStart => exact ⟨0, Nat.zero_le _, rfl, ⟨pt w 5 a0⟩, ⟨jr (Below.refl _ _) (Nat.le_refl _) 5 a0⟩⟩
 case round =>
  obtain ⟨k, hk, rfl, HF, HB⟩ := hrel; clear kb; by_cases hlt : k < a0.size
  ·have hkl : k < (au a0).length := by have := HL.out; omega
   have hbl : (((au a0).take k).map dF ++ (au a0).drop k).length = a0.size := by
    rw [List.length_append, gh _ _ aA, List.length_drop]; have := HL.out; omega
   obtain ⟨hc0, hf0⟩ := HF.out k (by rw [hbl]; exact hlt); rw [q8 _ k hkl] at hc0; have hrange := rc a0 (k : Int); rw [← ka, show rd (au a0) (k : Int) = (au a0)[k] by unfold rd; simp [List.getD_eq_getElem?_getD, List.getElem?_eq_getElem hkl]] at hrange; obtain ⟨h0, h1⟩ := hrange; clear hbl; obtain ⟨c, hc⟩ : ∃ c, (au a0)[k] = c := ⟨_, rfl⟩; rw [hc] at hc0 h0 h1; have HC := am_ hc; clear hc; by_cases hu : 65 ≤ c ∧ c ≤ 90
   ·have hf := nP c; rw [decide_eq_true hu] at hf; have HU := am_ hf; clear hf; have HV : aa (dF (au a0)[k] = c + 97 - 65) := ⟨by rw [HC.out]; unfold dF; rw [if_pos hu]; omega⟩; obtain ⟨hu0, hu1⟩ := hu; go_wp2_with (first | (go_at_call 132; (with_reducible refine (dh.calls c true _ HU.out).mono ?_); rintro e w' ⟨rfl, ⟨nd, rfl⟩⟩))
    go_roundw
    case rel => exact ⟨k + 1, aA, eY, ⟨by rw [← qP _ k hkl _ HV.out]; exact Buf8.drewN (Buf8.set HF.out k (c + 97 - 65)) _⟩, ⟨by first | exact aG (cR HB.out (Nat.le_refl _)) _ | exact cR (aG HB.out _) (Nat.le_refl _)⟩⟩
    case measure => simp [intOf]; omega
   ·have hf := nP c; rw [decide_eq_false hu] at hf; have HU := am_ hf; clear hf; have HV : aa (dF (au a0)[k] = (au a0)[k]) := ⟨by rw [HC.out]; unfold dF; rw [if_neg hu]⟩; clear hu; go_wp2_with (first | (go_at_call 132; (with_reducible refine (dh.calls c false _ HU.out).mono ?_); rintro e w' ⟨rfl, ⟨nd, rfl⟩⟩))
    go_roundw
    case rel => exact ⟨k + 1, aA, eY, ⟨by rw [← pJ _ k hkl HV.out]; exact Buf8.drewN HF.out _⟩, ⟨aG HB.out _⟩⟩
    case measure => simp [intOf]; omega
  ·obtain rfl : k = a0.size := by omega
   have hx := HF.out; rw [← HL.out, rx] at hx; have kr := run_convert_bytes_arg (P := Tryz.prog) wr 22 5 Tryz.underlying22 Tryz.underlying5 w.heap.size 0 a0.size (grownCap w a0.size 0 5) ((au a0).map dF) (by rw [List.length_map, HL.out]) (fun i hi => by rw [Nat.zero_add]; exact (hx i (by rw [List.length_map, HL.out]; exact hi)).1) 9 Tryz.underlying9; clear hx HF hk hlt; go_wp2; go_ret
   exact ⟨congrArg (fun s => Ending.returned (Value.string s)) HR.out, by first | exact HB.out | exact aG HB.out _⟩
def bL.j0 : Nat → ByteArray → Int → Bool → Option (ByteArray)
 | 0, _, _, _ => none
 | k + 1, x0, x3, x28 => if x28 = true then (if 0 ≤ (wrap64 (x3 - 1)) then (if (wrap64 (x3 - 1)) ≤ (x0.size : Int) then ((ao.f k cB (x0.extract 0 ((wrap64 (x3 - 1)) : Int).toNat)).bind fun t454 => (if t454 = true then (some (⟨#[]⟩ : ByteArray)) else (some (x0.extract 0 ((wrap64 (x3 - 1)) : Int).toNat)))) else (none)) else (none)) else ((ao.f k cB x0).bind fun t455 => (if t455 = true then (some (⟨#[]⟩ : ByteArray)) else (some x0)))
def bL.f (k : Nat) (a0 : ByteArray) : Option (ByteArray) := (eR.f a0).bind fun t453 => (if 0 ≤ (mn (t453.size : Int) 12) then (if (mn (t453.size : Int) 12) ≤ (t453.size : Int) then (if ((t453.extract 0 ((mn (t453.size : Int) 12) : Int).toNat).size : Int) > 3 then (if 0 ≤ (wrap64 (((t453.extract 0 ((mn (t453.size : Int) 12) : Int).toNat).size : Int) - 1)) then (if (wrap64 (((t453.extract 0 ((mn (t453.size : Int) 12) : Int).toNat).size : Int) - 1)) < ((t453.extract 0 ((mn (t453.size : Int) 12) : Int).toNat).size : Int) then (if (bt (t453.extract 0 ((mn (t453.size : Int) 12) : Int).toNat) (wrap64 (((t453.extract 0 ((mn (t453.size : Int) 12) : Int).toNat).size : Int) - 1))) = 115 then (if 0 ≤ (wrap64 (((t453.extract 0 ((mn (t453.size : Int) 12) : Int).toNat).size : Int) - 2)) then (if (wrap64 (((t453.extract 0 ((mn (t453.size : Int) 12) : Int).toNat).size : Int) - 2)) < ((t453.extract 0 ((mn (t453.size : Int) 12) : Int).toNat).size : Int) then (bL.j0 k (t453.extract 0 ((mn (t453.size : Int) 12) : Int).toNat) ((t453.extract 0 ((mn (t453.size : Int) 12) : Int).toNat).size : Int) ((bt (t453.extract 0 ((mn (t453.size : Int) 12) : Int).toNat) (wrap64 (((t453.extract 0 ((mn (t453.size : Int) 12) : Int).toNat).size : Int) - 2))) != 115)) else (none)) else (none)) else (bL.j0 k (t453.extract 0 ((mn (t453.size : Int) 12) : Int).toNat) ((t453.extract 0 ((mn (t453.size : Int) 12) : Int).toNat).size : Int) false)) else (none)) else (none)) else (bL.j0 k (t453.extract 0 ((mn (t453.size : Int) 12) : Int).toNat) ((t453.extract 0 ((mn (t453.size : Int) 12) : Int).toNat).size : Int) false)) else (none)) else (none))
theorem bL.mono_l : ∀ k, M3 bL.j0 k
 | 0 => ⟨cU⟩
 | k + 1 => by have _ := bL.mono_l k; exact ⟨by intros; unfold bL.j0; exact mo_⟩
instance bL.mono (k : Nat) : M1 bL.f k := ⟨by have _ := bL.mono_l k; intros; unfold bL.f; exact mo_⟩
theorem bL.calls (k : Nat) (a0 : ByteArray) (r : ByteArray) (w : World) (hG : StopsIn w) (h : bL.f k a0 = some r) :
  Calls Tryz.prog 46 #[.string a0] w fun e w' => e = .returned (.string r) ∧ Below w.heap.size w w' := by
 have HG_ := am_ hG; clear hG; obtain ⟨AG_, cG_, hg1_, hg2_, hg3_⟩ := HG_.out.stops; have HG1_ := am_ hg1_; have HG2_ := am_ hg2_; have HG3_ := am_ hg3_; clear hg1_ hg2_ hg3_; have HB := am_ (Below.refl w.heap.size w); have H := h; clear h; unfold bL.f at H
 obtain ⟨t453, A2, H⟩ := bi_ H; obtain ⟨ji3, hji3⟩ : ∃ j_ : Int, (mn (t453.size : Int) 12) = j_ := ⟨_, rfl⟩; replace H : (if 0 ≤ (ji3) then (if (ji3) ≤ (t453.size : Int) then (if ((t453.extract 0 ((ji3) : Int).toNat).size : Int) > 3 then (if 0 ≤ (wrap64 (((t453.extract 0 ((ji3) : Int).toNat).size : Int) - 1)) then (if (wrap64 (((t453.extract 0 ((ji3) : Int).toNat).size : Int) - 1)) < ((t453.extract 0 ((ji3) : Int).toNat).size : Int) then (if (bt (t453.extract 0 ((ji3) : Int).toNat) (wrap64 (((t453.extract 0 ((ji3) : Int).toNat).size : Int) - 1))) = 115 then (if 0 ≤ (wrap64 (((t453.extract 0 ((ji3) : Int).toNat).size : Int) - 2)) then (if (wrap64 (((t453.extract 0 ((ji3) : Int).toNat).size : Int) - 2)) < ((t453.extract 0 ((ji3) : Int).toNat).size : Int) then (bL.j0 k (t453.extract 0 ((ji3) : Int).toNat) ((t453.extract 0 ((ji3) : Int).toNat).size : Int) ((bt (t453.extract 0 ((ji3) : Int).toNat) (wrap64 (((t453.extract 0 ((ji3) : Int).toNat).size : Int) - 2))) != 115)) else (none)) else (none)) else (bL.j0 k (t453.extract 0 ((ji3) : Int).toNat) ((t453.extract 0 ((ji3) : Int).toNat).size : Int) false)) else (none)) else (none)) else (bL.j0 k (t453.extract 0 ((ji3) : Int).toNat) ((t453.extract 0 ((ji3) : Int).toNat).size : Int) false)) else (none)) else (none)) = some r := by first | (rw [hji3] at H; exact H) | (simp only [hji3] at H ⊢; exact H)
 (try rw [hji3] at A2)
 (try (have hji3h : ji3 ≤ 12 := by (rw [← hji3]; unfold mn; (repeat' split) <;> omega)))
 (try (have hji3g : ji3 ≤ 64 := by omega))
 (try (have hji3l : 0 ≤ ji3 := by (rw [← hji3]; unfold mn; (repeat' split) <;> omega)))
 (try (have hji3m : 0 ≤ ji3 := by omega))
 have hji3_ : (if 12 < (t453.size : Int) then 12 else (t453.size : Int)) = ji3 := hji3; by_cases c4 : 0 ≤ (ji3)
 ·rw [if_pos c4] at H; have c4b0 := eq_true c4; have c4b1 := decide_eq_true c4; clear c4; obtain ⟨c5b0, c5b1, H⟩ := ge_ H; have HC6 := am_ H; clear H; go_enter Tryz.func46, Tryz.ntmps46
  go_upto_region 3 with (first | ((with_reducible refine gt_ 5 ?_); refine gB_ 5 Tryz.func91 (eR.calls a0 t453 _ A2.out) ?_; intro w7 hb; replace HB := bs_ HB hb; (try clear hb)))
  (try simp only [Act.put, List.setIfInBounds_toArray, List.set_cons_zero, List.set_cons_succ])
  obtain ⟨y_, hy_⟩ : ∃ y_ : ByteArray, t453.extract 0 ((ji3) : Int).toNat = y_ := ⟨_, rfl⟩; simp only [hy_] at HC6 ⊢; clear hy_; go_upto_region 4 with (fail)
  (try simp only [Act.put, List.setIfInBounds_toArray, List.set_cons_zero, List.set_cons_succ])
  go_cut [28] (fun v28 wc => ∃ (kq : Nat) (x28_5 : Bool), v28 = .bool x28_5 ∧ aa (bL.j0 kq y_ (y_.size : Int) x28_5 = some r) ∧ aa (kq ≤ k) ∧ aa (Below w.heap.size w wc))
  case first =>
   have H := HC6.out; clear HC6; by_cases c8 : (y_.size : Int) > 3
   ·rw [if_pos c8] at H; have c8b0 : decide (3 < (y_.size : Int)) = true := decide_eq_true c8; have c8b1 : decide (3 < y_.size) = true := decide_eq_true aA; clear c8; (first | rw [c8b0] | (simp only [cP, dz]; rw [c8b0]) | skip)
    obtain ⟨ji9, hji9⟩ : ∃ j_ : Int, (wrap64 ((y_.size : Int) - 1)) = j_ := ⟨_, rfl⟩; replace H : (if 0 ≤ (ji9) then (if (ji9) < (y_.size : Int) then (if (bt y_ (ji9)) = 115 then (if 0 ≤ (wrap64 ((y_.size : Int) - 2)) then (if (wrap64 ((y_.size : Int) - 2)) < (y_.size : Int) then (bL.j0 k y_ (y_.size : Int) ((bt y_ (wrap64 ((y_.size : Int) - 2))) != 115)) else (none)) else (none)) else (bL.j0 k y_ (y_.size : Int) false)) else (none)) else (none)) = some r := by first | (rw [hji9] at H; exact H) | (simp only [hji9] at H ⊢; exact H)
    have hji9w : (IntKind.i64.wrap ((y_.size : Int) - 1)) = ji9 := (cP _).trans hji9; obtain ⟨c10b0, H⟩ := gd_ H; obtain ⟨c11b0, H⟩ := gd_ H; by_cases c13 : (bt y_ (ji9)) = 115
    ·rw [if_pos c13] at H; have c13b0 := db c13; have c13b1 := dd c13; clear c13; obtain ⟨ji14, hji14⟩ : ∃ j_ : Int, (wrap64 ((y_.size : Int) - 2)) = j_ := ⟨_, rfl⟩; replace H : (if 0 ≤ (ji14) then (if (ji14) < (y_.size : Int) then (bL.j0 k y_ (y_.size : Int) ((bt y_ (ji14)) != 115)) else (none)) else (none)) = some r := by first | (rw [hji14] at H; exact H) | (simp only [hji14] at H ⊢; exact H)
     have hji14w : (IntKind.i64.wrap ((y_.size : Int) - 2)) = ji14 := (cP _).trans hji14; obtain ⟨c15b0, H⟩ := gd_ H; obtain ⟨c16b0, H⟩ := gd_ H; have H' := am_ H; clear H; obtain ⟨p12, q12⟩ := pq_ (ji9) y_.size; have hx12 := bZ y_ (ji9); obtain ⟨p12, q12⟩ := tt_ p12 q12; obtain ⟨p17, q17⟩ := pq_ (ji14) y_.size; have hx17 := bZ y_ (ji14); obtain ⟨p17, q17⟩ := tt_ p17 q17; go_wp2; go_meet
     case rel => exact ⟨_, (((bt y_ (ji14)) != 115)), (by first | rfl | (simp; done) | (simp only [← hji3, ← hji14] <;> (first | rfl | simp)) | (simp [*]; done)), H', ⟨jH⟩, ⟨bw_ HB⟩⟩
    ·rw [if_neg c13] at H; have c13b0 := da c13; have c13b1 := dc c13; have H' := am_ H; clear H; obtain ⟨p12, q12⟩ := pq_ (ji9) y_.size; have hx12 := bZ y_ (ji9); obtain ⟨p12, q12⟩ := tt_ p12 q12; go_wp2; go_meet
     case rel => exact ⟨_, (false), u1_, H', ⟨jH⟩, ⟨bw_ HB⟩⟩
   ·rw [if_neg c8] at H; have c8b0 : decide (3 < (y_.size : Int)) = false := decide_eq_false c8; have c8b1 : decide (3 < y_.size) = false := decide_eq_false aA; clear c8; (first | rw [c8b0] | (simp only [cP, dz]; rw [c8b0]) | skip)
    have H' := am_ H; clear H; go_wp2; go_meet
    case rel => exact ⟨_, (false), u1_, H', ⟨jH⟩, ⟨bw_ HB⟩⟩
  case rest =>
   clear HC6; try clear c4
   try clear c4b0
   try clear c4b1
   try clear c5b0
   try clear c5b1
   obtain ⟨kq, x28_5, rfl, HA, HJ5, HB⟩ := hcut; cases kq with
   | zero => exact absurd HA.out (by simp [bL.j0])
   | succ kj5 =>
    have H := HA.out; clear HA; simp only [bL.j0] at H; cases x28_5
    ·replace H := hf_ H; obtain ⟨t455, A24, H⟩ := bi_ H; cases t455
     ·replace H := hf_ H; obtain rfl := si_ H; have hgx_ := (HB.out.cell (World.block_lt_of_cell? w _ HG1_.out)).trans HG1_.out; go_wp2_with (first | ((with_reducible refine ei (f := 92) rfl ?_); refine gD (some 35) rfl rfl Tryz.func92 ch rfl #[.slice AG_ cB.length cG_, .string y_] rfl u90_ ?_; (refine (ao.calls kj5 _ _ cB y_ false _ ?side1 ?side2 A24.out).mono ?_); (case side1 => exact u46_); (case side2 => exact HG2_.out); rintro e w' ⟨rfl, ⟨nd, rfl⟩⟩; refine ⟨_, rfl, ?_⟩))
      go_ret
      exact ⟨u82_, bw_ HB⟩
     ·replace H := ht_ H; obtain rfl := si_ H; have hgx_ := (HB.out.cell (World.block_lt_of_cell? w _ HG1_.out)).trans HG1_.out; go_wp2_with (first | ((with_reducible refine ei (f := 92) rfl ?_); refine gD (some 35) rfl rfl Tryz.func92 ch rfl #[.slice AG_ cB.length cG_, .string y_] rfl u90_ ?_; (refine (ao.calls kj5 _ _ cB y_ true _ ?side1 ?side2 A24.out).mono ?_); (case side1 => exact u46_); (case side2 => exact HG2_.out); rintro e w' ⟨rfl, ⟨nd, rfl⟩⟩; refine ⟨_, rfl, ?_⟩))
      go_ret
      exact ⟨u82_, bw_ HB⟩
    ·replace H := ht_ H; obtain ⟨ji19, hji19⟩ : ∃ j_ : Int, (wrap64 ((y_.size : Int) - 1)) = j_ := ⟨_, rfl⟩; replace H : (if 0 ≤ (ji19) then (if (ji19) ≤ (y_.size : Int) then ((ao.f kj5 cB (y_.extract 0 ((ji19) : Int).toNat)).bind fun t454 => (if t454 = true then (some (⟨#[]⟩ : ByteArray)) else (some (y_.extract 0 ((ji19) : Int).toNat)))) else (none)) else (none)) = some r := by first | (rw [hji19] at H; exact H) | (simp only [hji19] at H ⊢; exact H)
     have hji19w : (IntKind.i64.wrap ((y_.size : Int) - 1)) = ji19 := (cP _).trans hji19; obtain ⟨c20b0, c20b1, H⟩ := ge_ H; obtain ⟨c21b0, c21b1, H⟩ := ge_ H; obtain ⟨t454, A22, H⟩ := bi_ H; cases t454
     ·replace H := hf_ H; obtain rfl := si_ H; have hgx_ := (HB.out.cell (World.block_lt_of_cell? w _ HG1_.out)).trans HG1_.out; go_wp2_with (first | ((with_reducible refine ei (f := 92) rfl ?_); refine gD (some 35) rfl rfl Tryz.func92 ch rfl #[.slice AG_ cB.length cG_, .string (y_.extract 0 ((ji19) : Int).toNat)] rfl u87_ ?_; (refine (ao.calls kj5 _ _ cB (y_.extract 0 ((ji19) : Int).toNat) false _ ?side1 ?side2 A22.out).mono ?_); (case side1 => exact u46_); (case side2 => exact HG2_.out); rintro e w' ⟨rfl, ⟨nd, rfl⟩⟩; refine ⟨_, rfl, ?_⟩))
      go_ret
      exact ⟨u78_, bw_ HB⟩
     ·replace H := ht_ H; obtain rfl := si_ H; have hgx_ := (HB.out.cell (World.block_lt_of_cell? w _ HG1_.out)).trans HG1_.out; go_wp2_with (first | ((with_reducible refine ei (f := 92) rfl ?_); refine gD (some 35) rfl rfl Tryz.func92 ch rfl #[.slice AG_ cB.length cG_, .string (y_.extract 0 ((ji19) : Int).toNat)] rfl u87_ ?_; (refine (ao.calls kj5 _ _ cB (y_.extract 0 ((ji19) : Int).toNat) true _ ?side1 ?side2 A22.out).mono ?_); (case side1 => exact u46_); (case side2 => exact HG2_.out); rintro e w' ⟨rfl, ⟨nd, rfl⟩⟩; refine ⟨_, rfl, ?_⟩))
      go_ret
      exact ⟨u78_, bw_ HB⟩
 ·rw [if_neg c4] at H; exact absurd H dg
def dl.f (a0 : Int) : Option (Bool) := (dh.f a0).bind fun t456 => (if t456 = true then (some true) else ((df.f a0).bind fun t457 => (if t457 = true then (some true) else ((dO.f a0).bind fun t458 => (some t458)))))
theorem dl.calls (a0 : Int) (r : Bool) (w : World) (h : dl.f a0 = some r) :
  Calls Tryz.prog 90 #[.int .u8 a0] w fun e w' => e = .returned (.bool r) ∧ Drawn0 w w' := by
 have H := h; clear h; unfold dl.f at H
 obtain ⟨t456, A2, H⟩ := bi_ H; cases t456
 ·replace H := hf_ H; obtain ⟨t457, A4, H⟩ := bi_ H; cases t457
  ·replace H := hf_ H; obtain ⟨t458, A6, H⟩ := bi_ H; obtain rfl := si_ H; go_enter Tryz.func90, Tryz.ntmps90
   go_wp2_with (first | ((with_reducible refine gt_ 4 ?_); refine gD_ 4 Tryz.func132 (dh.calls a0 false _ A2.out) ?_; intro nd) | (go_at_call 133; (with_reducible refine (df.calls a0 false _ A4.out).mono ?_); rintro e w' ⟨rfl, ⟨nd, rfl⟩⟩) | (go_at_call 134; (with_reducible refine (dO.calls a0 t458 _ A6.out).mono ?_); rintro e w' ⟨rfl, ⟨nd, rfl⟩⟩))
   go_ret
   exact ⟨u4_, u3_⟩
  ·replace H := ht_ H; obtain rfl := si_ H; go_enter Tryz.func90, Tryz.ntmps90
   go_wp2_with (first | ((with_reducible refine gt_ 4 ?_); refine gD_ 4 Tryz.func132 (dh.calls a0 false _ A2.out) ?_; intro nd) | (go_at_call 133; (with_reducible refine (df.calls a0 true _ A4.out).mono ?_); rintro e w' ⟨rfl, ⟨nd, rfl⟩⟩))
   go_ret
   exact ⟨u4_, u3_⟩
 ·replace H := ht_ H; obtain rfl := si_ H; go_enter Tryz.func90, Tryz.ntmps90
  go_wp2_with (first | ((with_reducible refine gt_ 4 ?_); refine gD_ 4 Tryz.func132 (dh.calls a0 true _ A2.out) ?_; intro nd))
  go_ret
  exact ⟨u4_, u3_⟩
mutual
def aY.l0 : Nat → ByteArray → List (S90) → Int → Option ((List (S90)))
 | 0, _, _, _ => none
 | k + 1, x0, x3, x4 => if x4 < (x0.size : Int) then (aY.l1 k x0 x3 x4 x4) else (some x3)
def aY.l1 : Nat → ByteArray → List (S90) → Int → Int → Option ((List (S90)))
 | 0, _, _, _, _ => none
 | k + 1, x0, x3, x4, x5 => if x4 < (x0.size : Int) then (if 0 ≤ x4 then ((dl.f (bt x0 x4)).bind fun t462 => (if t462 = true then (aY.l1 k x0 x3 (wrap64 (x4 + 1)) x5) else (if x4 > x5 then (if 0 ≤ x5 then (if x5 ≤ x4 then (if x4 ≤ (x0.size : Int) then (if x3.length < 4398046511104 then (aY.l0 k x0 (x3 ++ [(⟨x0.extract (x5 : Int).toNat (x4 : Int).toNat, x5, x4⟩ : S90)]) (wrap64 (x4 + 1))) else (none)) else (none)) else (none)) else (none)) else (aY.l0 k x0 x3 (wrap64 (x4 + 1)))))) else (none)) else (if x4 > x5 then (if 0 ≤ x5 then (if x5 ≤ x4 then (if x4 ≤ (x0.size : Int) then (if x3.length < 4398046511104 then (aY.l0 k x0 (x3 ++ [(⟨x0.extract (x5 : Int).toNat (x4 : Int).toNat, x5, x4⟩ : S90)]) (wrap64 (x4 + 1))) else (none)) else (none)) else (none)) else (none)) else (aY.l0 k x0 x3 (wrap64 (x4 + 1))))
end
def aY.f (k : Nat) (a0 : ByteArray) : Option ((List (S90))) := aY.l0 k a0 (([] : List (S90))) 0
theorem aY.mono_l : ∀ k, M3 aY.l0 k ∧ M4 aY.l1 k
 | 0 => ⟨⟨cU⟩, ⟨cU⟩⟩
 | k + 1 => by obtain ⟨_, _⟩ := aY.mono_l k; exact ⟨⟨by intros; unfold aY.l0; exact mo_⟩, ⟨by intros; unfold aY.l1; exact mo_⟩⟩
instance aY.mono (k : Nat) : M1 aY.f k := ⟨by obtain ⟨_, _⟩ := aY.mono_l k; intros; unfold aY.f; exact mo_⟩
theorem aY.calls (k : Nat) (a0 : ByteArray) (r : List (S90)) (w : World) (h : aY.f k a0 = some r) :
  Calls Tryz.prog 56 #[.string a0] w fun e w' => ∃ v0_ : Value, e = .returned (v0_) ∧ Kd.R k90 90 w' w.heap.size (fun _ => True) v0_ r ∧ Below w.heap.size w w' := by
 have hu90 := Tryz.underlying90; have HB := am_ (Below.refl w.heap.size w); have H := h; clear h; unfold aY.f at H
 obtain ⟨y459, hy459⟩ : ∃ y_ : List (S90), y_ = (([] : List (S90))) := ⟨_, rfl⟩; replace H : (aY.l0 k a0 y459 0) = some r := by first | (rw [hy459]; with_reducible exact H) | (have H2_ := (Option.bind_some _ _).symm.trans H; rw [hy459]; with_reducible exact H2_) | (have H2_ := (Option.bind_some _ _).symm.trans H; with_reducible exact H2_) | with_reducible exact H | (rw [hy459]; exact H) | exact H
 have Ny459 := am_ hy459; clear hy459; have H' := am_ H; clear H; go_enter Tryz.func56, Tryz.ntmps56
 go_wp2_with (first | ((with_reducible refine aX (N := 6) rfl ?_); refine Kd.R_lit k90 _ 90 ?hg (N := 6) ?hd (xs := ([] : List (S90))) (inner := []) (ok := fun _ => True) (okp := fun _ => True) ?hr ?hp (fun _ hk => hk) trivial (Below.refl _ _) (Nat.le_refl _) dg ?_; (case hd => rfl); (case hg => rfl); (case hr => exact cx); (case hp => exact ji); intro v460 w2 ho3 hb hg_ hnew_; clear hg_ hnew_; (first | rw [← Ny459.out] at ho3 | (simp only [Int.reduceToNat] at ho3; rw [← Ny459.out] at ho3)); have HO461 := am_ (Kd.R_lower ho3 (aq (bw_ HB))); replace HB := bs_ HB hb; clear hb ho3))
 go_loopg [3, 4] k (fun kq v3 v4 w' => ∃ (x3_1 : List (S90)) (x4_1 : Int), v4 = .int .i64 x4_1 ∧ aa (aY.l0 kq a0 x3_1 x4_1 = some r) ∧ aa (kq ≤ k) ∧ aa (Kd.R k90 90 w' w.heap.size (fun _ => True) v3 x3_1) ∧ aa (Below w.heap.size w w'))
 case atStart => exact ⟨(y459), (0), u1_, H', ⟨Nat.le_refl _⟩, ⟨by (with_reducible repeat (first | apply Kd.R_alloc | apply Kd.R_drewN | apply Kd.R_drew)); exact HO461.out⟩, ⟨bw_ HB⟩⟩
 case round =>
  clear H'; obtain ⟨x3_1, x4_1, rfl, HA, HK1, HO_3, HB⟩ := hrel; cases gk with
  | zero => exact absurd HA.out (by simp [aY.l0])
  | succ k1 =>
   have H := HA.out; clear HA; simp only [aY.l0] at H; by_cases c4 : x4_1 < (a0.size : Int)
   ·rw [if_pos c4] at H; have c4b0 := decide_eq_true c4; clear c4; have H' := am_ H; clear H; go_wp2; go_loopg [4] k1 (fun kq v4 w' => ∃ (x4_2 : Int), v4 = .int .i64 x4_2 ∧ aa (aY.l1 kq a0 x3_1 x4_2 x4_1 = some r) ∧ aa (kq ≤ k1) ∧ aa (Kd.R k90 90 w' w.heap.size (fun _ => True) u3 x3_1) ∧ aa (Below w.heap.size w w'))
    case atStart => exact ⟨(x4_1), u1_, H', ⟨Nat.le_refl _⟩, ⟨u5_⟩, ⟨bw_ HB⟩⟩
    case round =>
     clear H'; try clear c4
     try clear c4b0
     obtain ⟨x4_2, rfl, HA, HK2, HO_3, HB⟩ := hrel; cases gk with
     | zero => exact absurd HA.out (by simp [aY.l1])
     | succ k2 =>
      have H := HA.out; clear HA; simp only [aY.l1] at H; by_cases c5 : x4_2 < (a0.size : Int)
      ·rw [if_pos c5] at H; have c5b0 := decide_eq_true c5; clear c5; obtain ⟨c6b0, H⟩ := gd_ H; obtain ⟨t462, A8, H⟩ := bi_ H; cases t462
       ·replace H := hf_ H; by_cases c10 : x4_2 > x4_1
        ·rw [if_pos c10] at H; have c10b0 : decide (x4_1 < x4_2) = true := decide_eq_true c10; clear c10; obtain ⟨c11b0, c11b1, H⟩ := ge_ H; obtain ⟨c12b0, c12b1, H⟩ := ge_ H; obtain ⟨c13b0, c13b1, H⟩ := ge_ H; obtain ⟨LMc14, H⟩ := gl_ H; generalize hy463 : ((x3_1 ++ [(⟨a0.extract (x4_1 : Int).toNat (x4_2 : Int).toNat, x4_1, x4_2⟩ : S90)]) : List (S90)) = y463 at H; have Ny463 := am_ hy463.symm; clear hy463; have H' := am_ H; clear H; obtain ⟨p7, q7⟩ := pq_ x4_2 a0.size; have hx7 := bZ a0 x4_2; obtain ⟨p7, q7⟩ := tt_ p7 q7; go_wp2_with (first | (go_at_call 90; (with_reducible refine (dl.calls (bt a0 x4_2) false _ A8.out).mono ?_); rintro e w' ⟨rfl, ⟨nd, rfl⟩⟩) | ((with_reducible refine ca (b := .append) (xs := #[.tmp 29, .tmp 37]) rfl ?_); at_builtin; refine Kd.R_append k90 (w0 := w) w.heap.size rfl (.tmp 29) (.tmp 37) 87 90 (.agg #[(.string ⟨#[]⟩), (.int .i64 0), (.int .i64 0)]) 32 rfl Tryz.underlying87 mi rfl bC aA u3 x3_1 (⟨a0.extract (x4_1 : Int).toNat (x4_2 : Int).toNat, x4_1, x4_2⟩ : S90) [.string (a0.extract (x4_1 : Int).toNat (x4_2 : Int).toNat), .int .i64 x4_1, .int .i64 x4_2] (fun _ => True) (fun _ => False) rfl rfl ?aP (fun _ hk => hk.elim) ?aF ?aO ?aB ?aS ?aL ?_; (case aP => exact jU _ _ _ (⟨a0.extract (x4_1 : Int).toNat (x4_2 : Int).toNat, x4_1, x4_2⟩ : S90)); (case aB => exact fM); (case aF => exact ln); (case aO => exact u5_); (case aS => exact fV); (case aL => have := LMc14.out; omega); intro v464 w15 ho hb hg hat; rw [← Ny463.out] at ho; replace HB := am_ (hb); have HO465 := am_ (ho); clear HO_3 ho hb hg hat))
         go_roundg k2
         case measure => have := HK1.out; have := HK2.out; omega
         case rel => exact ⟨(y463), (wrap64 (x4_2 + 1)), u1_, H', ⟨ly⟩, ⟨by (with_reducible repeat (first | apply Kd.R_alloc | apply Kd.R_drewN | apply Kd.R_drew)); exact HO465.out⟩, ⟨bw_ HB⟩⟩
        ·rw [if_neg c10] at H; have c10b0 : decide (x4_1 < x4_2) = false := decide_eq_false c10; clear c10; have H' := am_ H; clear H; obtain ⟨p7, q7⟩ := pq_ x4_2 a0.size; have hx7 := bZ a0 x4_2; obtain ⟨p7, q7⟩ := tt_ p7 q7; go_wp2_with (first | (go_at_call 90; (with_reducible refine (dl.calls (bt a0 x4_2) false _ A8.out).mono ?_); rintro e w' ⟨rfl, ⟨nd, rfl⟩⟩))
         go_roundg k2
         case measure => have := HK1.out; have := HK2.out; omega
         case rel => exact ⟨(x3_1), (wrap64 (x4_2 + 1)), u1_, H', ⟨ly⟩, ⟨u5_⟩, ⟨bw_ HB⟩⟩
       ·replace H := ht_ H; have H' := am_ H; clear H; obtain ⟨p7, q7⟩ := pq_ x4_2 a0.size; have hx7 := bZ a0 x4_2; obtain ⟨p7, q7⟩ := tt_ p7 q7; go_wp2_with (first | (go_at_call 90; (with_reducible refine (dl.calls (bt a0 x4_2) true _ A8.out).mono ?_); rintro e w' ⟨rfl, ⟨nd, rfl⟩⟩))
        go_roundg k2
        case measure => have := HK1.out; have := HK2.out; omega
        case rel => exact ⟨(wrap64 (x4_2 + 1)), u1_, H', ⟨ly⟩, ⟨u5_⟩, ⟨bw_ HB⟩⟩
      ·rw [if_neg c5] at H; have c5b0 := decide_eq_false c5; clear c5; by_cases c16 : x4_2 > x4_1
       ·rw [if_pos c16] at H; have c16b0 : decide (x4_1 < x4_2) = true := decide_eq_true c16; clear c16; obtain ⟨c17b0, c17b1, H⟩ := ge_ H; obtain ⟨c18b0, c18b1, H⟩ := ge_ H; obtain ⟨c19b0, c19b1, H⟩ := ge_ H; obtain ⟨LMc20, H⟩ := gl_ H; generalize hy466 : ((x3_1 ++ [(⟨a0.extract (x4_1 : Int).toNat (x4_2 : Int).toNat, x4_1, x4_2⟩ : S90)]) : List (S90)) = y466 at H; have Ny466 := am_ hy466.symm; clear hy466; have H' := am_ H; clear H; go_wp2_with (first | ((with_reducible refine ca (b := .append) (xs := #[.tmp 29, .tmp 37]) rfl ?_); at_builtin; refine Kd.R_append k90 (w0 := w) w.heap.size rfl (.tmp 29) (.tmp 37) 87 90 (.agg #[(.string ⟨#[]⟩), (.int .i64 0), (.int .i64 0)]) 32 rfl Tryz.underlying87 mi rfl bC aA u3 x3_1 (⟨a0.extract (x4_1 : Int).toNat (x4_2 : Int).toNat, x4_1, x4_2⟩ : S90) [.string (a0.extract (x4_1 : Int).toNat (x4_2 : Int).toNat), .int .i64 x4_1, .int .i64 x4_2] (fun _ => True) (fun _ => False) rfl rfl ?aP (fun _ hk => hk.elim) ?aF ?aO ?aB ?aS ?aL ?_; (case aP => exact jU _ _ _ (⟨a0.extract (x4_1 : Int).toNat (x4_2 : Int).toNat, x4_1, x4_2⟩ : S90)); (case aB => exact fM); (case aF => exact ln); (case aO => exact u5_); (case aS => exact fV); (case aL => have := LMc20.out; omega); intro v467 w21 ho hb hg hat; rw [← Ny466.out] at ho; replace HB := am_ (hb); have HO468 := am_ (ho); clear HO_3 ho hb hg hat))
        go_roundg k2
        case measure => have := HK1.out; have := HK2.out; omega
        case rel => exact ⟨(y466), (wrap64 (x4_2 + 1)), u1_, H', ⟨ly⟩, ⟨by (with_reducible repeat (first | apply Kd.R_alloc | apply Kd.R_drewN | apply Kd.R_drew)); exact HO468.out⟩, ⟨bw_ HB⟩⟩
       ·rw [if_neg c16] at H; have c16b0 : decide (x4_1 < x4_2) = false := decide_eq_false c16; clear c16; have H' := am_ H; clear H; go_wp2; go_roundg k2
        case measure => have := HK1.out; have := HK2.out; omega
        case rel => exact ⟨(x3_1), (wrap64 (x4_2 + 1)), u1_, H', ⟨ly⟩, ⟨u5_⟩, ⟨bw_ HB⟩⟩
   ·rw [if_neg c4] at H; have c4b0 := decide_eq_false c4; clear c4; obtain rfl := si_ H; go_wp2; go_ret
    exact ⟨_, u0_, u5_, bw_ HB⟩
def bR.l0 : Nat → List ByteArray → List (S90) → Int → Int → Option (List ByteArray)
 | 0, _, _, _, _ => none
 | k + 1, x3, x8, x9, x10 => if x10 < x9 then (if 0 ≤ x10 then (if x10 < (x8.length : Int) then ((bL.f k ((dv x8 x10).f0)).bind fun t477 => (if x3.length < 8796093022208 then (bR.l0 k (x3 ++ [t477]) x8 x9 (wrap64 (x10 + 1))) else (none))) else (none)) else (none)) else (some x3)
def bR.f (k : Nat) (a0 : ByteArray) : Option (List ByteArray) := (aY.f k a0).bind fun t472 => (bR.l0 k (([] : List ByteArray)) t472 (t472.length : Int) 0)
theorem bR.mono_l : ∀ k, M4 bR.l0 k
 | 0 => ⟨cU⟩
 | k + 1 => by have _ := bR.mono_l k; exact ⟨by intros; unfold bR.l0; exact mo_⟩
instance bR.mono (k : Nat) : M1 bR.f k := ⟨by have _ := bR.mono_l k; intros; unfold bR.f; exact mo_⟩
theorem bR.calls (k : Nat) (a0 : ByteArray) (r : List ByteArray) (w : World) (hG : StopsIn w) (h : bR.f k a0 = some r) :
  Calls Tryz.prog 20 #[.string a0] w fun e w' => ∃ v0_ : Value, e = .returned (v0_) ∧ Kd.R Kd.string 9 w' w.heap.size (fun _ => True) v0_ r ∧ Below w.heap.size w w' := by
 have hu90 := Tryz.underlying90; have HG_ := am_ hG; clear hG; have HB := am_ (Below.refl w.heap.size w); have H := h; clear h; unfold bR.f at H
 obtain ⟨y469, hy469⟩ : ∃ y_ : List ByteArray, y_ = (([] : List ByteArray)) := ⟨_, rfl⟩; replace H : ((aY.f k a0).bind fun t472 => (bR.l0 k y469 t472 (t472.length : Int) 0)) = some r := by first | (rw [hy469]; with_reducible exact H) | (have H2_ := (Option.bind_some _ _).symm.trans H; rw [hy469]; with_reducible exact H2_) | (have H2_ := (Option.bind_some _ _).symm.trans H; with_reducible exact H2_) | with_reducible exact H | (rw [hy469]; exact H) | exact H
 have Ny469 := am_ hy469; clear hy469; obtain ⟨t472, A2, H⟩ := bi_ H; have H' := am_ H; clear H; go_enter Tryz.func20, Tryz.ntmps20
 go_wp2_with (first | ((with_reducible refine aX (N := 6) rfl ?_); refine Kd.R_lit Kd.string _ 9 ?hg (N := 6) ?hd (xs := ([] : List ByteArray)) (inner := []) (ok := fun _ => True) (okp := fun _ => True) ?hr ?hp (fun _ hk => hk) trivial (Below.refl _ _) (Nat.le_refl _) dg ?_; (case hd => rfl); (case hg => rfl); (case hr => exact cx); (case hp => exact ji); intro v470 w3 ho4 hb hg_ hnew_; clear hg_ hnew_; (first | rw [← Ny469.out] at ho4 | (simp only [Int.reduceToNat] at ho4; rw [← Ny469.out] at ho4)); have HO471 := am_ (Kd.R_lower ho4 (aq (bw_ HB))); replace HB := bs_ HB hb; clear hb ho4) | ((with_reducible refine gt_ 8 ?_); refine gf_ 8 Tryz.func56 (aY.calls k a0 t472 _ A2.out) ?_; rintro e w5 ⟨v473, rfl, ho0, hb⟩; refine ⟨_, rfl, ?_⟩; replace HO471 := am_ (Kd.R_below u123_ hb); have HO474 := am_ (Kd.R_lower ho0 (aq (bw_ HB))); replace HB := bs_ HB hb; (try clear hb); (try clear ho0); obtain ⟨Ao6, co6, eo6⟩ := Kd.R_slice HO474.out; subst eo6))
 go_loopg [3, 10] k (fun kq v3 v10 w' => ∃ (x3_1 : List ByteArray) (x10_1 : Int), v10 = .int .i64 x10_1 ∧ aa (bR.l0 kq x3_1 t472 (t472.length : Int) x10_1 = some r) ∧ aa (kq ≤ k) ∧ aa (Kd.R Kd.string 9 w' w.heap.size (fun _ => True) v3 x3_1) ∧ aa (Kd.R k90 90 w' w.heap.size (fun _ => True) (.slice Ao6 t472.length co6) t472) ∧ aa (Below w.heap.size w w'))
 case atStart => exact ⟨(y469), (0), u1_, H', ⟨Nat.le_refl _⟩, ⟨u123_⟩, ⟨by (with_reducible repeat (first | apply Kd.R_alloc | apply Kd.R_drewN | apply Kd.R_drew)); exact HO474.out⟩, ⟨bw_ HB⟩⟩
 case round =>
  clear H'; obtain ⟨x3_1, x10_1, rfl, HA, HK1, HO_3, HO_8, HB⟩ := hrel; cases gk with
  | zero => exact absurd HA.out (by simp [bR.l0])
  | succ k1 =>
   have H := HA.out; clear HA; simp only [bR.l0] at H; by_cases c7 : x10_1 < (t472.length : Int)
   ·rw [if_pos c7] at H; have c7b0 := decide_eq_true c7; clear c7; obtain ⟨c8b0, H⟩ := gd_ H; obtain ⟨c9b0, H⟩ := gd_ H; obtain ⟨t477, A10, H⟩ := bi_ H; obtain ⟨LMc11, H⟩ := gl_ H; generalize hy478 : ((x3_1 ++ [t477]) : List ByteArray) = y478 at H; have Ny478 := am_ hy478.symm; clear hy478; have H' := am_ H; clear H; obtain ⟨ad475, e475, hx475_0, hx475_1, hx475_2⟩ := rt (Kd.R_reads' HO_8.out).2.2 x10_1 od_ od_; cases e475; obtain ⟨p475, q475⟩ := pt_ x10_1 t472.length; go_wp2_with (first | (with_reducible refine gt_ 5 ?_; refine bx_ 5 #[.string (⟨#[]⟩ : ByteArray), .int .i64 0, .int .i64 0] 90 ?_; intro gb476 hg w12 hbox hb; replace HO_3 := am_ (Kd.R_below u5_ hb); replace HO_8 := am_ (Kd.R_below (Kd.R_elderB u79_ gb476 (Nat.le_of_eq hg.symm)) hb); have BK476 := am_ (hbox); have GE476 := gw_ HB hg; replace HB := bs_ HB hb; clear hb hbox hg; obtain ⟨hcz13_0, hcz13_1, hcz13_2, hfz13_0, hfz13_1, hfz13_2⟩ := bX BK476.out) | ((with_reducible refine gt_ 17 ?_); refine gB_ 17 Tryz.func46 (bL.calls k1 ((dv t472 x10_1).f0) t477 _ ?side1 A10.out) ?_; (case side1 => exact i1); intro w14 hb; replace HO_3 := am_ (Kd.R_below (by (with_reducible repeat (first | apply Kd.R_alloc | apply Kd.R_drewN | apply Kd.R_drew)); exact (Kd.R_mono (Kd.R_far (p := ⟨gb476, 2, none⟩) (Kd.R_far (p := ⟨gb476, 1, none⟩) (Kd.R_far (p := ⟨gb476, 0, none⟩) (Kd.R_types HO_3.out BK476.out bC) (fun _ hk => hk.2) (.string ((dv t472 x10_1).f0))) (fun _ hk => hk.2) (.int .i64 ((dv t472 x10_1).f1))) (fun _ hk => hk.2) (.int .i64 ((dv t472 x10_1).f2))) (fun _ h_ => h_.1))) hb); replace HO_8 := am_ (Kd.R_below (by (with_reducible repeat (first | apply Kd.R_alloc | apply Kd.R_drewN | apply Kd.R_drew)); exact (Kd.R_mono (Kd.R_far (p := ⟨gb476, 2, none⟩) (Kd.R_far (p := ⟨gb476, 1, none⟩) (Kd.R_far (p := ⟨gb476, 0, none⟩) (Kd.R_mono HO_8.out (fun k_ hk => (⟨hk, hk.2⟩ : _ ∧ k_ ≠ gb476))) (fun _ hk => hk.2) (.string ((dv t472 x10_1).f0))) (fun _ hk => hk.2) (.int .i64 ((dv t472 x10_1).f1))) (fun _ hk => hk.2) (.int .i64 ((dv t472 x10_1).f2))) (fun _ h_ => h_.1))) hb); replace BK476 := am_ (bz (g := gb476) (o := .cells #[.string ((dv t472 x10_1).f0), .int .i64 ((dv t472 x10_1).f1), .int .i64 ((dv t472 x10_1).f2)] 90 (0, 0)) (by (with_reducible repeat (first | refine ah ?_ _ | refine ac ?_ | refine ai ?_ _)); refine aQ (cs := #[.string ((dv t472 x10_1).f0), .int .i64 ((dv t472 x10_1).f1), .int .i64 0]) ?_ 2 _ rfl; (with_reducible repeat (first | refine ah ?_ _ | refine ac ?_ | refine ai ?_ _)); refine aQ (cs := #[.string ((dv t472 x10_1).f0), .int .i64 0, .int .i64 0]) ?_ 1 _ rfl; (with_reducible repeat (first | refine ah ?_ _ | refine ac ?_ | refine ai ?_ _)); refine aQ (cs := #[.string (⟨#[]⟩ : ByteArray), .int .i64 0, .int .i64 0]) ?_ 0 _ rfl; (with_reducible repeat (first | refine ah ?_ _ | refine ac ?_ | refine ai ?_ _)); exact BK476.out) hb); replace HB := bs_ HB hb; (try clear hb)) | ((with_reducible refine ca (b := .append) (xs := #[.tmp 14, .tmp 18]) rfl ?_); at_builtin; refine Kd.R_append Kd.string (w0 := w) w.heap.size rfl (.tmp 14) (.tmp 18) 30 9 (.string ⟨#[]⟩) 16 rfl Tryz.underlying30 eM rfl bC aA u3 x3_1 t477 [.string t477] (fun _ => True) (fun _ => False) rfl rfl ?aP (fun _ hk => hk.elim) ?aF ?aO ?aB ?aS ?aL ?_; (case aP => exact rfl); (case aB => exact fM); (case aF => exact ln); (case aO => exact u5_); (case aS => exact fV); (case aL => have := LMc11.out; omega); intro v479 w15 ho hb hg hat; rw [← Ny478.out] at ho; replace HO_8 := am_ (Kd.R_over' u79_ (Kd.R_typed u5_) bC hg); replace BK476 := am_ (mc (g := gb476) (o := .cells #[.string ((dv t472 x10_1).f0), .int .i64 ((dv t472 x10_1).f1), .int .i64 ((dv t472 x10_1).f2)] 90 (0, 0)) (by (with_reducible repeat (first | refine ah ?_ _ | refine ac ?_ | refine ai ?_ _)); exact BK476.out) hg (Kd.R_ne HO_3.out BK476.out bC)); replace HB := am_ (hb); have HO480 := am_ (ho); clear HO_3 ho hb hg hat))
    go_roundg k1
    case measure => have := HK1.out; omega
    case rel => exact ⟨(y478), (wrap64 (x10_1 + 1)), u1_, H', ⟨du⟩, ⟨by (with_reducible repeat (first | apply Kd.R_alloc | apply Kd.R_drewN | apply Kd.R_drew)); exact HO480.out⟩, ⟨by (with_reducible repeat (first | apply Kd.R_alloc | apply Kd.R_drewN | apply Kd.R_drew)); exact Kd.R_mono HO_8.out (fun _ hk => trivial)⟩, ⟨bw_ HB⟩⟩
   ·rw [if_neg c7] at H; have c7b0 := decide_eq_false c7; clear c7; obtain rfl := si_ H; go_wp2; go_ret
    exact ⟨_, u0_, u5_, bw_ HB⟩
section
open Go Go.RowKit Go.Proofs.YtnjjdojonflckaaGreatDoor.Ent
section
open Go Go.RowKit Go.Sort Go.Proofs.YtnjjdojonflckaaGreatDoorW.PrintWords Go.Proofs.YtnjjdojonflckaaGreatDoorW.PrintLast Go.Proofs.YtnjjdojonflckaaGreatDoorW.PrintMore Go.Proofs.YtnjjdojonflckaaGreatDoor.Ent
abbrev Sl := Option Addr × Nat × Nat
def eK (x : S76 × Sl) : List Value := [.string x.1.f0, .string x.1.f1, .slice x.2.1 x.2.2.1 x.2.2.2]
def ng (x y : S76) : Int := ordS (x.f0, x.f1) (y.f0, y.f1)
instance : Inhabited (S76 × Sl) := ⟨(z76, none, 0, 0)⟩
theorem ey (x y : List UInt8) : Op.bytesLess x y = true ↔ x < y := by rw [Go.Proofs.bytesLess_eq]; simp
theorem nI (x y : ByteArray) : g8 x y < 0 ↔ x.toList < y.toList := by
 unfold g8
 by_cases h : x.toList < y.toList
 ·rw [if_pos ((ey _ _).2 h)]; simp [h]
 ·rw [if_neg (fun h2 => h ((ey _ _).1 h2))]; simp only [h, iff_false]; split <;> simp
theorem l6 (x y : ByteArray) : g8 x y = 0 ↔ x.toList = y.toList := by
 unfold g8
 by_cases h : x.toList < y.toList
 ·rw [if_pos ((ey _ _).2 h)]; constructor
  ·intro h2; omega
  ·intro h2; rw [h2] at h; exact absurd h (List.lt_irrefl _)
 ·rw [if_neg (fun h2 => h ((ey _ _).1 h2))]; have hb : Op.bytesLess x.toList y.toList = false := by
   cases hc : Op.bytesLess x.toList y.toList
   ·rfl
   ·exact absurd ((ey _ _).1 hc) h
  rw [hb, Bool.false_or]; by_cases h2 : x.toList = y.toList
  ·simp [h2]
  ·simp [h2]
def ltP (p q : ByteArray × ByteArray) : Prop := p.1.toList < q.1.toList ∨ p.1.toList = q.1.toList ∧ p.2.toList < q.2.toList
theorem fW (p q : ByteArray × ByteArray) : ordS p q < 0 ↔ ltP p q := by
 unfold ordS ltP
 by_cases h : g8 p.1 q.1 = 0
 ·rw [if_pos h, nI]; have h2 := (l6 _ _).1 h; rw [h2]; constructor
  ·intro h3; exact .inr ⟨rfl, h3⟩
  ·rintro (h3 | ⟨_, h3⟩)
   ·exact absurd h3 (List.lt_irrefl _)
   ·exact h3
 ·rw [if_neg h, nI]; constructor
  ·intro h3; exact .inl h3
  ·rintro (h3 | ⟨h3, _⟩)
   ·exact h3
   ·exact absurd ((l6 _ _).2 h3) h
theorem fw (p : ByteArray × ByteArray) : ¬ ltP p p := by
 rintro (h | ⟨_, h⟩) <;> exact absurd h (List.lt_irrefl _)
theorem fh {p q r : ByteArray × ByteArray} (h : ltP p q) (k : ltP q r) : ltP p r := by
 rcases h with h | ⟨h, h2⟩ <;> rcases k with k | ⟨k, k2⟩
 ·exact .inl (List.lt_trans h k)
 ·exact .inl (k ▸ h)
 ·exact .inl (h ▸ k)
 ·exact .inr ⟨h.trans k, List.lt_trans h2 k2⟩
theorem fQ (p q : ByteArray × ByteArray) : ltP p q ∨ p = q ∨ ltP q p := by
 have ext : ∀ {a b : ByteArray}, a.toList = b.toList → a = b := fun {a b} h => by
  rw [ByteArray.toList_eq, ByteArray.toList_eq] at h; cases a; cases b; simpa using h
 have tri : ∀ a b : List UInt8, a < b ∨ a = b ∨ b < a := fun a b => by
  by_cases h1 : a < b
  ·exact .inl h1
  ·by_cases h2 : b < a
   ·exact .inr (.inr h2)
   ·exact .inr (.inl (List.le_antisymm h2 h1))
 rcases tri p.1.toList q.1.toList with h | h | h
 ·exact .inl (.inl h)
 ·rcases tri p.2.toList q.2.toList with k | k | k
  ·exact .inl (.inr ⟨h, k⟩)
  ·exact .inr (.inl (Prod.ext (ext h) (ext k)))
  ·exact .inr (.inr (.inr ⟨h.symm, k⟩))
 ·exact .inr (.inr (.inl h))
theorem swoE : SWO (ltOf fun (x y : S76 × Sl) => ng x.1 y.1) where
 irrefl x := by
  unfold ltOf ng
  rw [decide_eq_false_iff_not, fW]; exact fw _
 trans x y z h1 h2 := by
  unfold ltOf ng at *
  rw [decide_eq_true_eq, fW] at *; exact fh h1 h2
 ntrans x y z h1 h2 := by
  unfold ltOf ng at *
  rw [decide_eq_false_iff_not, fW] at *; intro h3; rcases fQ (x.1.f0, x.1.f1) (y.1.f0, y.1.f1) with h | h | h
  ·exact h1 h
  ·rw [h] at h3; exact h2 h3
  ·exact h2 (fh h h3)
theorem mD (blk off size : Nat) (w : World) : CmpLays Tryz.prog 116 #[] eK 3 (fun (x y : S76 × Sl) => ng x.1 y.1) blk off size w :=
 fun _ _ _ _ x y => o0 x.1.f0 x.1.f1 y.1.f0 y.1.f1 _ _ _ _ _ _ _
theorem nN {R : S76 → List Value → Prop} (hR : ∀ x c, R x c → ∃ s : Sl, c = eK (x, s)) : ∀ (xs : List S76) (inner : List Value), Reps R 3 xs inner → ∃ ds : List (S76 × Sl), ds.map (·.1) = xs ∧ inner = ds.flatMap eK ∧ ∀ p ∈ ds, R p.1 (eK p)
 | [], inner, h => ⟨[], rfl, by have := h.1; simpa using this, dg⟩
 | x :: xs, inner, h => by
  have h0 := h.2 0 x rfl; rw [Nat.zero_mul, List.drop_zero] at h0; obtain ⟨s, hs⟩ := hR x _ h0; have hl := h.1; rw [List.length_cons] at hl; obtain ⟨ds, h1, h2, h3⟩ := nN hR xs (inner.drop 3) ⟨by rw [List.length_drop]; omega, fun j p hj => by
   have := h.2 (j + 1) p (by simpa using hj); rw [List.drop_drop]; have e : 3 + j * 3 = (j + 1) * 3 := by omega
   rw [e]; exact this⟩
  refine ⟨(x, s) :: ds, by rw [List.map_cons, h1], ?_, fun p hp => ?_⟩
  ·rw [List.flatMap_cons, ← h2, ← hs, List.take_append_drop]
  ·rcases List.mem_cons.1 hp with hp | hp
   ·rw [hp, ← hs]; exact h0
   ·exact h3 p hp
theorem kv {R : S76 → List Value → Prop} : ∀ (ds : List (S76 × Sl)), (∀ p ∈ ds, R p.1 (eK p)) → Reps R 3 (ds.map (·.1)) (ds.flatMap eK)
 | [], _ => ⟨rfl, dg⟩
 | p :: ds, h => by
  have ih := kv ds (fun q hq => h q (List.mem_cons_of_mem _ hq)); refine ⟨by have := ih.1; rw [List.flatMap_cons, List.length_append, this, List.map_cons, List.length_cons]; show 3 + _ = _; omega, fun j q hj => ?_⟩; cases j with
  | zero =>
   obtain rfl : p.1 = q := by simpa using hj
   exact h p dg
  | succ j =>
   have := ih.2 j q (by simpa using hj); rw [List.flatMap_cons]; have e : (j + 1) * 3 = (eK p).length + j * 3 := by show _ = 3 + _; omega
   rw [e, ← List.drop_drop, List.drop_left]; exact this
theorem g6 (d : Array (S76 × Sl)) : (flatK eK 3 d).toList = d.toList.flatMap eK := by
 have h : ∀ (l : List (S76 × Sl)) (t : Nat), t < l.length * 3 → (l.flatMap eK)[t]? = some (eK (l[t / 3]!))[t % 3]! := by
  intro l; induction l with
  | nil => intro t ht; simp at ht
  | cons p l ih =>
   intro t ht; rw [List.flatMap_cons]; by_cases h3 : t < 3
   ·rw [List.getElem?_append_left (by exact h3)]; have e0 : t / 3 = 0 := by omega
    have e1 : t % 3 = t := by omega
    rw [e0, e1]; have hl : (eK p).length = 3 := rfl; rw [List.getElem?_eq_getElem aA]; simp [hl, h3]
   ·rw [List.getElem?_append_right (by show 3 ≤ t; omega)]; have hl : (eK p).length = 3 := rfl; rw [hl]; have := ih (t - 3) (by rw [List.length_cons] at ht; omega); rw [this]; have e0 : t / 3 = (t - 3) / 3 + 1 := by omega
    have e1 : t % 3 = (t - 3) % 3 := by omega
    rw [e0, e1]; simp
 have hfl : ∀ l : List (S76 × Sl), (l.flatMap eK).length = l.length * 3 := by
  intro l; induction l with
  | nil => rfl
  | cons p l ih => rw [List.flatMap_cons, List.length_append, ih, List.length_cons]; show 3 + _ = _; omega
 apply List.ext_getElem?
 intro t; rcases Nat.lt_or_ge t (d.size * 3) with ht | ht
 ·have h2 := h d.toList t (by simpa using ht); rw [h2]; have hs : t < (flatK eK 3 d).size := by simpa using ht
  rw [Array.getElem?_toList, Array.getElem?_eq_getElem hs]; have h3 := get_flatK eK 3 d t ht; rw [getElem!_pos (flatK eK 3 d) t hs] at h3; rw [h3]; have h4 : d.toList[t / 3]! = d[t / 3]! := by
   rw [getElem!_pos d (t / 3) aA, getElem!_pos d.toList (t / 3) (by rw [Array.length_toList]; omega), Array.getElem_toList]
  rw [h4]
 ·rw [List.getElem?_eq_none (by simpa using ht), List.getElem?_eq_none (by rw [hfl]; simpa using ht)]
def cQ (x : S76) : ByteArray × ByteArray := (x.f0, x.f1)
set_option maxHeartbeats 1000000 in
theorem qX (v : Value) (xs : List S76) (B : Nat) (w0 w : World) (hB : Below B w0 w) (hR : Kd.R k76 76 w B (fun _ => True) v xs) (hv : ∃ g, v.ownBlock = some g) (hlen : xs.length < 1000000000) :
  Calls Tryz.prog 115 #[v, .func (.func 116) #[] #[]] w fun e w' => e = .returned (.tuple #[]) ∧ ∃ ys : List S76, ys.Perm xs ∧ ys.Pairwise (fun a b => ¬ ltP (cQ b) (cQ a)) ∧ Kd.R k76 76 w' B (fun _ => True) v ys ∧ Below B w0 w' := by
 obtain ⟨h0, inner, ho, hr⟩ := hR; obtain ⟨g, hg⟩ := hv; rcases ho.2 with ⟨rfl, _⟩ | ⟨g', cap, cur, rfl, hb, hh, hle, hmax, hsz, htake⟩
 ·simp [Value.ownBlock] at hg
 have hgg : g' = g := by simpa [Value.ownBlock] using hg
 subst hgg; have e3 : k76.sz = 3 := rfl; rw [e3] at hr htake hsz; obtain ⟨ds, hds1, hds2, hds3⟩ := nN (fun x c hM => by
  obtain ⟨v2, rfl, hP⟩ := jd hM; obtain ⟨A, n, rfl⟩ := Kd.R_slice hP; exact ⟨(A, x.f2.length, n), rfl⟩) xs inner hr
 have hlt : g' < w.heap.size := dY hh; have hdl : ds.length = xs.length := by rw [← hds1, List.length_map]
 have hil : inner.length = xs.length * 3 := hr.1; have hget : ∀ t, t < inner.length → cur[t]? = inner[t]? := fun t ht => by
  rw [← htake, List.getElem?_take, if_pos aA, Array.getElem?_toList]
 have hflat : (flatK eK 3 ds.toArray).toList = inner := by rw [g6, hds2]
 have hH : HoldsK eK 3 w g' 0 ds.toArray := by
  intro j hj; have hj' : j < inner.length := by rw [← hflat]; simpa using hj
  constructor
  ·rw [Nat.zero_add, bP hh, hget j hj', ← hflat, Array.getElem?_toList, Array.getElem?_eq_getElem hj, getElem!_pos (flatK eK 3 ds.toArray) j hj]; rfl
  ·exact dp hh _
 have hsize : ds.toArray.size = xs.length := by simpa using hdl
 have hcon := Tryz.slices_SortFunc_Entry eK (fun _ => rfl) (fun x u hu => by
  simp only [eK, List.mem_cons, List.not_mem_nil, or_false] at hu; rcases hu with rfl | rfl | rfl <;> rfl) (fun (x y : S76 × Sl) => ng x.1 y.1) swoE 116 #[] g' 0 cap ds.toArray w (enters_of Tryz.func116 ch rfl) (mD g' 0 _ w) hH hlt aA
 rw [hsize] at hcon; refine hcon.mono ?_; rintro e w' ⟨rfl, d', n, os, hp, hs, rfl⟩; obtain ⟨hp1, _, hp3⟩ := hp; have hd'l : d'.size = xs.length := by rw [hp1, hsize]
 have hperm : d'.toList.Perm ds := by
  have e1 : d'.extract 0 xs.length = d' := by rw [← hd'l]; simp
  have e2 : ds.toArray.extract 0 xs.length = ds.toArray := by rw [← hsize]; simp
  rw [e1, e2] at hp3; simpa using hp3
 have hheap := nJ (enc := id) (w := w) hh n os 0 (flatK eK 3 d'); have hother : ∀ k, k < w.heap.size → k ≠ g' → (sortWorldK eK 3 w g' 0 n d' os).heap[k]? = w.heap[k]? := fun k hk hne => fy hk (Ne.symm hne) n os 0 _
 have hsz' : w.heap.size ≤ (sortWorldK eK 3 w g' 0 n d' os).heap.size := size_sortWorldK_c eK 3 w g' 0 n d' os; have hxl : (d'.toList.map (·.1)).length = xs.length := by rw [List.length_map, Array.length_toList, hd'l]
 have hfl' : (d'.toList.flatMap eK).length = xs.length * 3 := by rw [← g6, Array.length_toList, size_flatK, hd'l]
 refine ⟨rfl, d'.toList.map (·.1), ?_, ?_, ⟨fun _ _ => trivial, d'.toList.flatMap eK, ?_, ?_⟩, ⟨hB.os, hB.tape, hB.output, Nat.le_trans hB.size hsz', fun k hk => ?_⟩⟩
 ·have := hperm.map (·.1); rwa [hds1] at this
 ·rw [List.pairwise_map]; rw [List.pairwise_iff_getElem]; intro i j hi hj hij; have hi' : i < d'.size := by simpa using hi
  have hj' : j < d'.size := by simpa using hj
  have h1 := hs i j (Nat.zero_le _) hij aA; unfold ltOf ng at h1
  rw [decide_eq_false_iff_not, fW, getElem!_pos d' i hi', getElem!_pos d' j hj'] at h1; simpa [cQ] using h1
 ·rw [hxl]; refine ⟨by rw [hfl', e3], .inr ⟨g', cap, _, rfl, hb, hheap, hle, hmax, by rw [gR, e3]; exact hsz, ?_⟩⟩; apply List.ext_getElem?
  intro t; rw [List.getElem?_take, e3]; split
  ·rename_i ht
   have ht2 : t < (flatK eK 3 d').size := by rw [size_flatK, hd'l]; exact ht
   have ht3 : t < cur.size := by rw [hsz]; exact Nat.lt_of_lt_of_le ht (Nat.mul_le_mul_right _ hle)
   rw [Array.getElem?_toList, ix _ _ ht2 ht3, ← g6, Array.getElem?_toList, Array.getElem?_eq_getElem ht2]; rfl
  ·rename_i ht
   rw [List.getElem?_eq_none (by rw [hfl']; omega)]
 ·rw [e3]; refine kv d'.toList (fun p hp => ?_); have hM := hds3 p (hperm.mem_iff.1 hp); refine k76.M_mono (fun k hk => hk.1) (k76.M_move (w1 := sortWorldK eK 3 w g' 0 n d' os) (fun k hk => hother k hk.2.2.1 (fun he => hk.1.2 (by rw [he]; simp [Value.ownBlock]))) (k76.M_bound hM))
 ·rw [hother k (Nat.lt_of_lt_of_le hk (Nat.le_of_lt (Nat.lt_of_le_of_lt hb hlt))) aA]; exact hB.block k hk
end
section
open Go Go.RowKit Go.MapKept Go.Proofs.YtnjjdojonflckaaGreatDoorW.PrintWords Go.Proofs.YtnjjdojonflckaaGreatDoorW.PrintLast Go.Proofs.YtnjjdojonflckaaGreatDoorW.PrintMore Go.Proofs.YtnjjdojonflckaaGreatDoor.Ent
open Go.ChangeMaps (setBlock heap_setBlock_same heap_setBlock_other)
theorem jf : km Tryz.prog 145 147 34 where
 K := Go.Maps.Keyed.of_law (deep_law_gate ch (of_decide_eq_true ch) (of_decide_eq_true ch) ch ch)
 ht := Tryz.underlying145
 key := fun p hp => qk Tryz.underlying147 Tryz.underlying9 Tryz.underlying9 rfl rfl ch ch ch ch ch ch ⟨_, rfl⟩ p hp
 zero := fun w => by kernel_rfl
section
variable {P : Program} {ops : Array Oper} {rest : List Oper} {o o2 : Oper} {a : Act} {Q : Exit → Act → World → Prop}
theorem fF {W : World} (hg1 : o.guard = none) {N : Tmp} (hd : o.dst = some N) (hg2 : o2.guard = none) (hd2 : o2.dst = none) {zs cs : Array Value} {t : TypeId}
  (hrun1 : (execOp a.eval o).run P W = .ok (.value (.pointer (some ⟨W.heap.size, 0, none⟩))) (W.alloc (.cells zs t (0, 0))))
  (hrun2 : (execOp (a.put o.dst (.pointer (some ⟨W.heap.size, 0, none⟩))).eval o2).run P (W.alloc (.cells zs t (0, 0))) = .ok .skip (W.alloc (.cells cs t (0, 0))))
  (h : ∀ g, g = W.heap.size → ∀ w1, w1.heap[g]? = some (.cells cs t (0, 0)) → Below W.heap.size W w1 → wpList P ops Q rest (a.put o.dst (.pointer (some ⟨g, 0, none⟩))) w1) : wpList P ops Q (o :: o2 :: rest) a W := by
 refine Kd.event_run hg1 hrun1 ?_; refine wpList_plain hg2 fun K hK => ?_
 unfold Oper.wp
 rw [hrun2]; show K ((a.put o.dst _).put o2.dst undef) _
 rw [hd2]; exact hK _ _ (h _ rfl _ (po W _) (bU (Below.refl _ _) _))
theorem pP {W : World} (hg1 : o.guard = none) {N : Tmp} (hd : o.dst = some N) (base : Nat)
  (hrun : (execOp a.eval o).run P W = .ok (.value (.map (some W.heap.size))) (W.alloc (.map #[] 0)))
  (h : ∀ m, m = W.heap.size → ∀ w1, MapIs k50 50 w1 base m [] → Below W.heap.size W w1 → wpList P ops Q rest (a.put o.dst (.map (some m))) w1) : wpList P ops Q (o :: rest) a W :=
 Kd.event_run hg1 hrun (h _ rfl _ (MapIs.made W base) (bU (Below.refl _ _) _))
end
theorem MapRest.sub {α : Type} {d : Kd α} {e : Nat} {w : World} {base m N j : Nat} {G : List (Pl × List α)} {okj ok1 : Nat → Prop} (h : MapRest d e w base m G j okj N) (hs : ∀ k, ok1 k → okj k) : MapRest d e w base m G j ok1 N := by
 obtain ⟨es, clock, f, hc, hm, hok, hS⟩ := h; exact ⟨es, clock, f, hc, hm, fun k hk => hok k (hs k hk), hS⟩
def Wr (w : World) (m k : Nat) : Prop := k = m ∨ ∃ q cells, (q = 50 ∨ q = 3) ∧ w.heap[k]? = some (.cells cells q (0, 0))
theorem Wr.not {w : World} {m k t : Nat} {cells : Array Value} {es : Array MapEntry} {clock : Nat} (hm : w.heap[m]? = some (.map es clock)) (hb : w.heap[k]? = some (.cells cells t (0, 0))) (h1 : t ≠ 50) (h2 : t ≠ 3) : ¬ Wr w m k := by
 rintro (rfl | ⟨q, c, hq, hc⟩)
 ·rw [hm] at hb; cases hb
 ·rw [hb] at hc; injection hc with hc
  injection hc with _ hc
  rcases hq with rfl | rfl
  ·exact h1 hc
  ·exact h2 hc
theorem MapIs.block {α : Type} {d : Kd α} {e : Nat} {w : World} {base m : Nat} {G : List (Pl × List α)} (h : MapIs d e w base m G) : ∃ es clock, w.heap[m]? = some (.map es clock) := by
 obtain ⟨es, clock, _, hc, _⟩ := h; exact ⟨es, clock, hc.heap⟩
theorem lC {w : World} {m : Nat} {S : Nat → Prop} {o : Obj} {w0 : World} (h : Kept w0 w S) (hm : S m ∨ w0.heap.size ≤ m) (hlt : m < w.heap.size) : Kept w0 (setBlock w m o) S :=
 h.then_ (S2 := fun k => k = m) ⟨by simp [setBlock], fun i hi hn => kR w o hn⟩ (fun k hk => by rw [hk]; exact hm)
theorem ki {B : Nat} {w0 w : World} {m : Nat} {o : Obj} (h : Below B w0 w) (hm : B ≤ m) : Below B w0 (setBlock w m o) :=
 ⟨h.os, h.tape, h.output, by have := h.size; simpa [setBlock] using this, fun k hk => (kR w o aA).trans (h.block k hk)⟩
abbrev Gs := List (Pl × List S50)
def entriesW.cs (k : Nat) (fs : List S92) (id : Int) : List S86 → Gs × Nat → Option (Gs × Nat)
 | [], s => some s
 | c :: cs, s => (a6.f k fs c.f0).bind fun fd => if fd.2.1 = 1 then
   (bR.f k c.f1).bind fun ts => if s.2 + ts.length ≤ 1000000 ∧ c.f0.size ≤ 1000000 ∧ (ts.all fun t => decide (t.size ≤ 1000000)) = true then entriesW.cs k fs id cs (fL id c.f0 ts 0 s.1, s.2 + ts.length) else none
  else entriesW.cs k fs id cs s
def entriesW.rs (k : Nat) (fs : List S92) : List S46 → Gs × Nat → Option (Gs × Nat)
 | [], s => some s
 | r :: rs, s => (entriesW.cs k fs r.f0 r.f1.f1 s).bind fun s' => entriesW.rs k fs rs s'
def toE (g : Pl × List S50) : S76 := ⟨g.1.1, g.1.2, g.2⟩
theorem nX {b : Bool} (s : ByteArray) (h : s.toList.isEmpty = b) : decide (s.size = 0) = b := by
 subst h; have e : s.toList.length = s.size := by rw [ByteArray.toList_eq]; exact Array.length_toList
 by_cases h : s.size = 0
 ·have : s.toList = [] := List.eq_nil_of_length_eq_zero aA; simp [h, this]
 ·have : s.toList ≠ [] := fun h2 => h (by rw [← e, h2]; rfl)
  simp [h, this]
def n3 (e : S76) : List S76 → List S76
 | [] => [e]
 | x :: l => if ng e x < 0 then e :: x :: l else x :: n3 e l
def ee (l : List S76) : List S76 := l.foldr n3 []
def entriesW.f (k : Nat) (fs : List S92) (rows : List S46) : Option (List S76) := (entriesW.rs k fs rows ([], 0)).bind fun s => some (ee (s.1.map toE))
theorem fld92_1 (x0 : ByteArray) (x1 x2 : Int) (w : World) : (Instr.field 92 (Value.agg #[.string x0, .int .i64 x1, .int .i64 x2]) 1).run Tryz.prog w = .ok (.int .i64 x1) w := by kernel_rfl
attribute [local go_sem] fld92_1
theorem hY {w w1 : World} {row : Option Nat} {g o t : Nat} {cells : Array Value} {v : Value} (hg : w.grownBy w1 row) (hty : ∀ k, row = some k → ∃ q cells, (q = 50 ∨ q = 3) ∧ w.heap[k]? = some (.cells cells q (0, 0))) (hb : w.heap[g]? = some (.cells cells t (0, 0))) (hc : w.cell? ⟨g, o, none⟩ = some v) (h1 : t ≠ 50 := by decide) (h2 : t ≠ 3 := by decide) : w1.cell? ⟨g, o, none⟩ = some v :=
 Go.Proofs.YtnjjdojonflckaaGreatDoorW.PrintWords.cell_grown hg hc (fun he => by
  obtain ⟨q, c, hq, hh⟩ := hty g he.symm; rw [hb] at hh; injection hh with hh
  injection hh with _ hh
  rcases hq with rfl | rfl
  ·exact h1 hh
  ·exact h2 hh)
theorem qU {ops : Array Oper} {rest : List Oper} {o : Oper} {a : Act} {Q : Exit → Act → World → Prop} {w0 W : World} {B : Nat} (hgd : o.guard = none) {N : Tmp} (hd : o.dst = some N)
  (hrun : (execOp a.eval o).run Tryz.prog W = .ok (.value (.slice (some ⟨W.heap.size, 0, none⟩) 0 0)) (W.alloc (.cells #[] 76)))
  (HB : Below B w0 W) (hbase : B ≤ W.heap.size) (h : ∀ v1 w1, Kd.R k76 76 w1 B (fun _ => True) v1 [] → Below B w0 w1 → Below W.heap.size W w1 → (∃ b, v1.ownBlock = some b) → wpList Tryz.prog ops Q rest (a.put o.dst v1) w1) : wpList Tryz.prog ops Q (o :: rest) a W :=
 Kd.R_lit k76 (w0 := w0) B 76 hgd hd (xs := []) (inner := []) (ok := fun _ => True) (okp := fun _ => True) hrun (Reps.none _ _) (fun _ hk => hk) trivial HB hbase dg (fun v1 w1 hs hb hg hv => h v1 w1 hs hb ⟨hg.os, hg.tape, hg.output, hg.size, fun k hk => hg.block k hk dg⟩ (by obtain ⟨b, hb, _⟩ := hv; exact ⟨b, hb⟩))
theorem R_iter {wr w4 : World} {B m rr : Nat} {G : Gs} {is : List Nat} {v : Value} {xs : List S76} (h : Kd.R k76 76 wr B (fun _ => True) v xs) (hrg : Ranging k50 50 wr B m rr G is) (hg : wr.grownBy w4 (some rr)) : Kd.R k76 76 w4 B (fun _ => True) v xs := by
 obtain ⟨es, clock, f, c0, seen, hc, hS, hr, _⟩ := hrg; refine Kd.R_mono (Kd.R_grown (Kd.R_bound h) hg (fun k hk he => ?_)) (fun _ _ => trivial); obtain ⟨_, _, _, q, hq, cells, hcl⟩ := hk; injection he with he
 rw [he, hr] at hcl; cases hcl
theorem Ranging.nodup {wr : World} {B m rr : Nat} {G : Gs} {is : List Nat} (hrg : Ranging k50 50 wr B m rr G is) : (G.map (·.1)).Nodup := by
 obtain ⟨es, clock, f, c0, seen, hc, _⟩ := hrg; exact hc.nodup
theorem nL {w : World} {k : Nat} (h : ∃ q, q ∈ 50 :: k50.E ∧ ∃ cells, w.heap[k]? = some (.cells cells q (0, 0))) (h' : ∃ cells, w.heap[k]? = some (.cells cells 76 (0, 0))) : False := by
 obtain ⟨q, hq, cells, hc⟩ := h; obtain ⟨cells', hc'⟩ := h'; rw [hc] at hc'; injection hc' with hc'
 injection hc' with _ hc'
 rw [hc'] at hq; exact absurd hq bC
theorem iO (e : S76) : ∀ l, (n3 e l).Perm (e :: l)
 | [] => List.Perm.refl _
 | x :: l => by
  unfold n3
  split
  ·exact List.Perm.refl _
  ·exact ((iO e l).cons x).trans (List.Perm.swap e x l)
theorem fx : ∀ l, (ee l).Perm l
 | [] => List.Perm.refl _
 | x :: l => (iO x (ee l)).trans ((fx l).cons x)
theorem jy (e : S76) : ∀ l : List S76, l.Pairwise (fun a b => ltP (cQ a) (cQ b)) → (∀ x ∈ l, cQ x ≠ cQ e) → (n3 e l).Pairwise (fun a b => ltP (cQ a) (cQ b))
 | [], _, _ => by unfold n3; simp
 | x :: l, h, hne => by
  rw [List.pairwise_cons] at h; unfold n3
  split
  ·rename_i hlt
   have hlt' : ltP (cQ e) (cQ x) := (fW _ _).1 hlt; rw [List.pairwise_cons, List.pairwise_cons]; exact ⟨fun y hy => (List.mem_cons.1 hy).elim (fun h2 => by rw [h2]; exact hlt') (fun h2 => fh hlt' (h.1 y h2)), h⟩
  ·rename_i hlt
   have hge : ltP (cQ x) (cQ e) := by
    rcases fQ (cQ x) (cQ e) with h2 | h2 | h2
    ·exact h2
    ·exact absurd h2 (hne x dg)
    ·exact absurd ((fW _ _).2 h2) hlt
   rw [List.pairwise_cons]; refine ⟨fun y hy => ?_, jy e l h.2 (fun y hy => hne y (List.mem_cons_of_mem _ hy))⟩; rcases List.mem_cons.1 ((iO e l).mem_iff.1 hy) with h2 | h2
   ·rw [h2]; exact hge
   ·exact h.1 y h2
theorem fe : ∀ l : List S76, (l.map cQ).Nodup → (ee l).Pairwise (fun a b => ltP (cQ a) (cQ b))
 | [], _ => List.Pairwise.nil
 | x :: l, h => by
  rw [List.map_cons, List.nodup_cons] at h; refine jy x (ee l) (fe l h.2) (fun y hy he => h.1 ?_); exact List.mem_map.2 ⟨y, (fx l).mem_iff.1 hy, he⟩
theorem iW : ∀ {l m : List S76}, l.Perm m → l.Pairwise (fun a b => ltP (cQ a) (cQ b)) → m.Pairwise (fun a b => ltP (cQ a) (cQ b)) → l = m
 | [], m, h, _, _ => (List.nil_perm.1 h).symm
 | x :: l, [], h, _, _ => absurd h.symm dg
 | x :: l, y :: m, h, h1, h2 => by
  rw [List.pairwise_cons] at h1 h2; have hxy : x = y := by
   rcases List.mem_cons.1 (h.mem_iff.1 (List.mem_cons_self ..)) with e | e
   ·exact e
   ·rcases List.mem_cons.1 (h.mem_iff.2 (List.mem_cons_self (a := y) (l := m))) with e2 | e2
    ·exact e2.symm
    ·exact absurd (fh (h1.1 y e2) (h2.1 x e)) (fw _)
  subst hxy; rw [iW (List.Perm.cons_inv h) h1.2 h2.2]
theorem pw {G : Gs} {ys : List S76} (h : ys.Perm (G.map toE)) (hs : ys.Pairwise (fun a b => ¬ ltP (cQ b) (cQ a))) (hn : (G.map (·.1)).Nodup) : ys = ee (G.map toE) := by
 have hk : ((G.map toE).map cQ).Nodup := by
  have e : (G.map toE).map cQ = G.map (·.1) := by rw [List.map_map]; rfl
  rw [e]; exact hn
 have hk2 : (ys.map cQ).Nodup := (h.map cQ).nodup_iff.2 hk; refine iW (h.trans (fx _).symm) ?_ (fe _ hk); have h3 : ys.Pairwise (fun a b => cQ a ≠ cQ b) := List.pairwise_map.1 hk2; exact (hs.and h3).imp (fun {a b} hab => by
  rcases fQ (cQ a) (cQ b) with h4 | h4 | h4
  ·exact h4
  ·exact absurd h4 hab.2
  ·exact absurd h4 hab.1)
theorem hZ {w0 wr w3 : World} {B m jj : Nat} {G : Gs} {okj ok1 : Nat → Prop} {xs xs' : List S50} {v1 : Value} {p : Pl} {id x : Int} (hmap : MapIs k50 50 wr B m G) (hrest : MapRest k50 50 wr B m G jj okj wr.heap.size) (hk : Kept wr w3 okj) (hS : Kd.S k50 50 w3 B ok1 v1 xs') (hok : ∀ k, ok1 k → okj k ∨ wr.heap.size ≤ k)
  (hty : ∀ k, okj k → ∃ q cells, (q = 50 ∨ q = 3) ∧ wr.heap[k]? = some (.cells cells q (0, 0))) (hp : kF p) (hj : (jj = G.length ∧ xs = [] ∧ ∀ g ∈ G, g.1 ≠ p) ∨ ∃ g, G[jj]? = some g ∧ g.1 = p ∧ g.2 = xs) (he : xs' = eZ xs id x) (hB : Below B w0 w3) (hm : B ≤ m) :
  ∃ es clock, (Instr.mapUpdate 145 (.map (some m)) (.agg #[.string p.1, .string p.2]) v1).run Tryz.prog w3 = .ok () (setBlock w3 m (.map es clock)) ∧ MapIs k50 50 (setBlock w3 m (.map es clock)) B m (stepG G p id x) ∧ Kept wr (setBlock w3 m (.map es clock)) (Wr wr m) ∧ Below B w0 (setBlock w3 m (.map es clock)) := by
 have hrest3 := hrest.step (w1 := w3) (fun k hk1 hn => hk.2 k hk1 hn); obtain ⟨es, clock, hrun, hmap3⟩ := Go.Proofs.YtnjjdojonflckaaGreatDoor.Ent.put jf hrest3 hS hok hp (hj.imp (fun h => ⟨h.1, h.2.2⟩) (fun ⟨g, h1, h2, _⟩ => ⟨g, h1, h2⟩)); rw [he, qh G p id x jj xs hmap.keys_nodup hj] at hmap3; exact ⟨es, clock, hrun, hmap3, lC (hk.mono (fun k h => .inr (hty k h))) (.inl (.inl rfl)) (Nat.lt_of_lt_of_le hmap.lt hk.1), ki hB hm⟩
theorem entriesW.calls (k : Nat) (A0 : Option Addr) (c0 : Nat) (l0 : List (S92)) (A1 : Option Addr) (c1 : Nat) (l1 : List (S46)) (r : List (S76)) (w : World) (hG : StopsIn w) (hr0 : Kd.C k92 w A0 l0.length l0) (hc0 : l0.length ≤ c0) (hr1 : Kd.C k46 w A1 l1.length l1) (hc1 : l1.length ≤ c1) (h : entriesW.f k l0 l1 = some r) :
  Calls Tryz.prog 68 #[.slice A0 l0.length c0, .slice A1 l1.length c1] w fun e w' => ∃ v0_ : Value, e = .returned (v0_) ∧ Kd.R k76 76 w' w.heap.size (fun _ => True) v0_ r ∧ Below w.heap.size w w' := by
 obtain ⟨⟨GG, nn⟩, hrs, hsort⟩ := Option.bind_eq_some_iff.1 h; have hsort := Option.some.inj hsort; have hlen := hr1.2.1; have HG := am_ hG; have HF := am_ hr0; have HF0 := am_ hc0; have HR := am_ hr1; have H := am_ hrs; have HSORT := am_ hsort; have HB := am_ (Below.refl w.heap.size w); have hu46_ := Tryz.underlying46; have hu86_ := Tryz.underlying86; clear hG hr0 hc0 hr1 h hrs hsort; go_enter Tryz.func68, Tryz.ntmps68
 go_wp2_with (first | ((with_reducible refine aX (N := 17) rfl ?_); refine pP ?hg (N := 17) ?hd w.heap.size ?hr ?_; (case hd => rfl); (case hg => rfl); (case hr => exact cx); intro m hm w1 hmap hb; have HM := am_ hmap; have HMW := am_ (Nat.le_of_eq hm.symm); replace HB := am_ (cG HB.out hb); clear hm hmap hb))
 go_loopw [20] (fun v20 wr => ∃ (i : Nat) (s : Gs × Nat), v20 = .int .i64 (i : Int) ∧ i ≤ l1.length ∧ aa (entriesW.rs k l0 (l1.drop i) s = some (GG, nn)) ∧ aa (LenG s.2 s.1 ∧ s.2 ≤ 1000000) ∧ aa (MapIs k50 50 wr w.heap.size m s.1) ∧ aa (Below w.heap.size w wr)) (fun v _ => match v with | .int _ i => l1.length - i.toNat | _ => 0)
 case atStart => exact ⟨0, ([], 0), rfl, Nat.zero_le _, H, ⟨⟨Nat.zero_le _, dg⟩, Nat.zero_le _⟩, HM, HB⟩
 case round =>
  clear H HM HB; obtain ⟨i, s, rfl, hi, H, HL, HM, HB⟩ := hrel; rcases Nat.lt_or_ge i l1.length with hlt | hge
  ·obtain ⟨ad, A2, c2, e, hx0, hx1, hx2, hcl, hcc⟩ := dG HR.out (i : Int) aA aA; subst e; simp only [Int.toNat_natCast] at hx0 hx1 hx2; replace hx0 := aj HB.out hx0; replace hx1 := aj HB.out hx1; replace hx2 := aj HB.out hx2; have hrd : ab l1 (i : Int) = l1[i] := by unfold ab; simp [List.getD_eq_getElem?_getD, List.getElem?_eq_getElem hlt]
   rw [hrd] at hx0 hx1 hx2 hcl hcc; have h := H.out; rw [List.drop_eq_getElem_cons hlt, entriesW.rs] at h; generalize l1[i] = row at hx0 hx1 hx2 hcl hcc h; clear hrd; obtain ⟨s2, hs2, h⟩ := Option.bind_eq_some_iff.1 h; have HS2 := am_ hs2; have H2 := am_ h; have HCC := am_ hcc; have hclen := hcc.2.1; have p1 : ((i : Int) < (l1.length : Int)) = True := eq_true aA; have p0 : (0 ≤ (i : Int)) = True := eq_true aA; clear h H hs2 hcc hcl; go_wp2_with (first | ((with_reducible refine aX (N := 7) rfl ?_); refine fF rfl (N := 7) rfl rfl rfl (zs := #[.int .i64 0, .string (⟨#[]⟩ : ByteArray), .slice none 0 0]) (cs := #[.int .i64 row.f0, .string row.f1.f0, .slice A2 row.f1.f1.length c2]) (t := 46) ?hr ?hs ?_; (case hr => exact cx); (case hs => exact cx); intro gr hg w2 hbox hb; have BKr := am_ hbox; replace HM := am_ (HM.out.below hb); replace HB := am_ (cG HB.out hb); have hz2 : w2.cell? ⟨gr, 2, none⟩ = some (.slice A2 row.f1.f1.length c2) := (bP BKr.out 2).trans rfl; clear hg hbox hb hx0 hx1 hx2))
   have hclen' : row.f1.f1.length ≤ 9223372036854775807 := hclen; go_loopw [28] (fun v28 wr => ∃ (j : Nat) (s3 : Gs × Nat), v28 = .int .i64 (j : Int) ∧ j ≤ row.f1.f1.length ∧ aa (entriesW.cs k l0 row.f0 (row.f1.f1.drop j) s3 = some s2) ∧ aa (LenG s3.2 s3.1 ∧ s3.2 ≤ 1000000) ∧ aa (MapIs k50 50 wr w.heap.size m s3.1) ∧ aa (wr.heap[gr]? = some (.cells #[.int .i64 row.f0, .string row.f1.f0, .slice A2 row.f1.f1.length c2] 46 (0, 0))) ∧ aa (Below w.heap.size w wr)) (fun v _ => match v with | .int _ i => row.f1.f1.length - i.toNat | _ => 0)
   case atStart => exact ⟨0, s, rfl, Nat.zero_le _, HS2, HL, HM, BKr, HB⟩
   case round =>
    clear HS2 HL HM BKr HB hz2; obtain ⟨j, s3, rfl, hj, HS2, HL, HM, BKr, HB⟩ := hrel; rcases Nat.lt_or_ge j row.f1.f1.length with hjlt | hjge
    ·obtain ⟨adc, e, hy0, hy1⟩ := cz HCC.out (j : Int) aA aA; subst e; simp only [Int.toNat_natCast] at hy0 hy1; replace hy0 := aj HB.out hy0; replace hy1 := aj HB.out hy1; have hrd : ak row.f1.f1 (j : Int) = row.f1.f1[j] := by unfold ak; simp [List.getD_eq_getElem?_getD, List.getElem?_eq_getElem hjlt]
     rw [hrd] at hy0 hy1; have h := HS2.out; rw [List.drop_eq_getElem_cons hjlt, entriesW.cs] at h; generalize row.f1.f1[j] = c at hy0 hy1 h; clear hrd; obtain ⟨⟨d1, d2, d3⟩, hfd, h⟩ := Option.bind_eq_some_iff.1 h; have HFD := am_ hfd; have q1 : ((j : Int) < (row.f1.f1.length : Int)) = True := eq_true aA; have q0 : (0 ≤ (j : Int)) = True := eq_true aA; simp only at h; by_cases hd2 : d2 = 1
     ·rw [if_pos hd2] at h; obtain ⟨ts, hts, h⟩ := Option.bind_eq_some_iff.1 h; by_cases hck : s3.2 + ts.length ≤ 1000000 ∧ c.f0.size ≤ 1000000 ∧ (ts.all fun t => decide (t.size ≤ 1000000)) = true
      ·rw [if_pos hck] at h; have HTS := am_ hts; have HCK := am_ hck; have H3 := am_ h; have hdb : (d2 != 1) = false := by rw [hd2]; rfl
       clear h HS2 hts hfd hck hd2; go_wp2_with (first | ((with_reducible refine aX (N := 9) rfl ?_); refine fF rfl (N := 9) rfl rfl rfl (zs := #[.string (⟨#[]⟩ : ByteArray), .string (⟨#[]⟩ : ByteArray)]) (cs := #[.string c.f0, .string c.f1]) (t := 86) ?hr ?hs ?_; (case hr => exact cx); (case hs => exact cx); intro gc hg w3 hbox hb; have BKc := am_ hbox; replace HM := am_ (HM.out.below hb); replace BKr := am_ (bz BKr.out hb); replace HB := am_ (cG HB.out hb); have hz0 : w3.cell? ⟨gc, 0, none⟩ = some (.string c.f0) := (bP BKc.out 0).trans rfl; have hz1 : w3.cell? ⟨gc, 1, none⟩ = some (.string c.f1) := (bP BKc.out 1).trans rfl; clear hg hbox hb hy0 hy1) | (go_at_call 110; refine (a6.calls k _ _ _ _ _ _ _ _ (Kd.C_below HF.out HB.out) HF0.out HFD.out).mono ?_; rintro e w4 ⟨rfl, hb⟩; replace HM := am_ (HM.out.below hb); replace BKr := am_ (bz BKr.out hb); replace BKc := am_ (bz BKc.out hb); replace HB := am_ (cG HB.out hb); replace hz0 := aj hb hz0; replace hz1 := aj hb hz1; clear hb) | (go_at_call 20; refine (bR.calls k _ _ _ (StopsIn.below HG.out HB.out) HTS.out).mono ?_; rintro e w5 ⟨vt, rfl, ht, hb⟩; obtain ⟨A8, c8, rfl⟩ := Kd.R_slice ht; have HT := am_ (Kd.R_lower (Kd.R_tight rfl ht) HB.out.size); replace HM := am_ (HM.out.below hb); replace BKr := am_ (bz BKr.out hb); replace BKc := am_ (bz BKc.out hb); replace HB := am_ (cG HB.out hb); clear hb ht hz0 hz1))
       have hlt8 := (Kd.R_reads' HT.out).2.2.2.1; go_loopw [42] (fun v42 wr => ∃ (n : Nat) (G : Gs), v42 = .int .i64 (n : Int) ∧ n ≤ ts.length ∧ aa (fL row.f0 c.f0 (ts.drop n) (n : Int) G = fL row.f0 c.f0 ts 0 s3.1) ∧ aa (LenG (s3.2 + n) G) ∧ aa (MapIs k50 50 wr w.heap.size m G) ∧ aa (Kd.R Kd.string 9 wr w.heap.size (fun k_ => some k_ = (Value.slice A8 ts.length c8).ownBlock) (.slice A8 ts.length c8) ts) ∧ aa (wr.heap[gr]? = some (.cells #[.int .i64 row.f0, .string row.f1.f0, .slice (some adc) row.f1.f1.length c2] 46 (0, 0))) ∧ aa (wr.heap[gc]? = some (.cells #[.string c.f0, .string c.f1] 86 (0, 0))) ∧ aa (Below w.heap.size w wr)) (fun v _ => match v with | .int _ i => ts.length - i.toNat | _ => 0)
       case atStart => exact ⟨0, s3.1, rfl, Nat.zero_le _, ⟨rfl⟩, ⟨HL.out.1⟩, HM, HT, BKr, BKc, HB⟩
       case round =>
        clear HM HT BKr BKc HB; obtain ⟨n, G, rfl, hn, HGS, HLG, HM, HT, BKr, BKc, HB⟩ := hrel; rcases Nat.lt_or_ge n ts.length with hnlt | hnge
        ·have h := HGS.out; rw [List.drop_eq_getElem_cons hnlt, fL] at h; have htc := (Kd.R_reads' HT.out).2.2; obtain ⟨ad8, e8, hy⟩ := qp htc n hnlt; subst e8; have htm : ts[n] ∈ ts := List.getElem_mem _; have hsm : ts[n].size ≤ 1000000 := by have := List.all_eq_true.1 HCK.out.2.2 _ htm; simpa using this
         have r1 : ((n : Int) < (ts.length : Int)) = True := eq_true aA; have r0 : (0 ≤ (n : Int)) = True := eq_true aA; generalize ts[n] = tt at h hy hsm htm; generalize hte : tt.toList.isEmpty = bt; have hsz := nX tt hte; cases bt with
         | true =>
          rw [if_pos (by simpa using hsz)] at h; have HN := am_ h; clear h hsz htc htm hsm; go_wp2; go_roundw
          case rel => exact ⟨n + 1, G, eY, aA, by simpa using HN, ⟨⟨by have := HLG.out.1; omega, fun g hg => ⟨by have := (HLG.out.2 g hg).1; omega, fun q hq => by have := (HLG.out.2 g hg).2 q hq; omega⟩⟩⟩, HM, HT, BKr, BKc, HB⟩
          case measure => simp; omega
         | false =>
          rw [if_neg (by simpa using hsz)] at h; have HN := am_ h; have hp : kF (c.f0, tt) := ⟨Nat.le_trans HCK.out.2.1 bC, Nat.le_trans hsm bC⟩; obtain ⟨jj, v, xs, okj0, hlook0, hS0, hrest0, hjj⟩ := Go.Proofs.YtnjjdojonflckaaGreatDoor.Ent.look jf HM.out hp; obtain ⟨Av, cv, rfl⟩ := Kd.S_slice hS0; have hlook : (Instr.lookup 145 (.map (some m)) (.agg #[.string c.f0, .string tt]) false).run Tryz.prog wr = .ok (.slice Av xs.length cv) wr := hlook0; have hxl : xs.length ≤ s3.2 + n ∧ ∀ q ∈ xs, q.f1.length ≤ s3.2 + n := HLG.out.at hjj; have hck1 := HCK.out.1; have hS := Kd.S_bound hS0; have hrest := MapRest.sub hrest0 (ok1 := fun k => okj0 k ∧ w.heap.size ≤ k ∧ k < wr.heap.size ∧ ∃ q, q ∈ 50 :: k50.E ∧ ∃ cells, wr.heap[k]? = some (.cells cells q (0, 0))) (fun k hk => hk.1); obtain ⟨okj, hokj⟩ : ∃ okj : Nat → Prop, okj = (fun k => okj0 k ∧ w.heap.size ≤ k ∧ k < wr.heap.size ∧ ∃ q, q ∈ 50 :: k50.E ∧ ∃ cells, wr.heap[k]? = some (.cells cells q (0, 0))) := ⟨_, rfl⟩; rw [← hokj] at hS hrest; have hty : ∀ k, okj k → ∃ q cells, (q = 50 ∨ q = 3) ∧ wr.heap[k]? = some (.cells cells q (0, 0)) := fun k hk => by
           rw [hokj] at hk; obtain ⟨_, _, _, q, hq, cells, hc⟩ := hk; refine ⟨q, cells, ?_, hc⟩; rcases List.mem_cons.1 hq with hq | hq
           ·exact .inl hq
           ·exact .inr (by have : k50.E = [3] := rfl; rw [this] at hq; simpa using hq)
          clear hokj; have hxl2 : xs.length ≤ 2000000 := by omega
          have HXL := am_ hxl; have HSX := am_ hS; have HREST := am_ hrest; have HTY := am_ hty; have HJJ := am_ hjj; have HPS := am_ hp; have hz0 : wr.cell? ⟨gc, 0, none⟩ = some (.string c.f0) := (bP BKc.out 0).trans rfl; have hzr : wr.cell? ⟨gr, 0, none⟩ = some (.int .i64 row.f0) := (bP BKr.out 0).trans rfl; clear h hsz htc htm hsm hlook0 hS0 hrest0 hS hrest hty hjj hp hxl hck1; have HLQ := am_ (show s3.2 + n ≤ 2000000 by have := HL.out.2; have := HCK.out.1; omega); obtain ⟨X, hX⟩ : ∃ X : List S50, X = xs := ⟨_, rfl⟩; have HJX : aa ((jj = G.length ∧ X = [] ∧ ∀ g ∈ G, g.1 ≠ (c.f0, tt)) ∨ ∃ g, G[jj]? = some g ∧ g.1 = (c.f0, tt) ∧ g.2 = X) := ⟨by rw [hX]; exact HJJ.out⟩; clear HJJ; rcases Nat.eq_zero_or_pos xs.length with h0 | hpos
          ·obtain rfl : xs = [] := List.eq_nil_of_length_eq_zero h0; have HX := am_ hX; clear hX h0; have HST := am_ (show ([] : List S50) ++ [⟨row.f0, [(n : Int)]⟩] = eZ X row.f0 (n : Int) from by rw [HX.out]; rfl); go_wp2; go_quiet (fail)
           have HM5 := am_ (HM.out.below (aG (Below.refl _ _) nq)); have HREST5 := am_ (show MapRest k50 50 (wr.drewN nq) w.heap.size m G jj okj (wr.drewN nq).heap.size from HREST.out.step (fun _ _ _ => rfl)); have HS5 := am_ (Kd.S_drewN HSX.out nq); have HTY5 := am_ (show ∀ k, okj k → ∃ q cells, (q = 50 ∨ q = 3) ∧ (wr.drewN nq).heap[k]? = some (.cells cells q (0, 0)) from HTY.out); have BKr5 := am_ (ah BKr.out nq); have BKc5 := am_ (ah BKc.out nq); have HT5 := am_ (Kd.R_drewN HT.out nq); have HB5 := am_ (aG HB.out nq); have HBM := am_ (Nat.le_trans HMW.out (Nat.le_refl m)); clear HM HREST HSX HTY BKr BKc HT HB hlook hz0 hzr; generalize wr.drewN nq = w5 at HM5 HREST5 HS5 HTY5 BKr5 BKc5 HT5 HB5 ⊢; have hzr5 : w5.cell? ⟨gr, 0, none⟩ = some (.int .i64 row.f0) := (bP BKr5.out 0).trans rfl; have hz05 : w5.cell? ⟨gc, 0, none⟩ = some (.string c.f0) := (bP BKc5.out 0).trans rfl; go_wp2_with (first | ((with_reducible refine ca (b := .append) (xs := #[.tmp 82, .tmp 88]) rfl ?_); at_builtin; refine Kd.S_append k50 (w0 := w) w.heap.size rfl (.tmp 82) (.tmp 88) 34 50 (.agg #[(.int .i64 0), (.slice none 0 0)]) 32 rfl Tryz.underlying34 m3 rfl bC aA (.slice Av 0 cv) ([] : List S50) (⟨row.f0, [(n : Int)]⟩ : S50) [.int .i64 row.f0, .slice (some ⟨w5.heap.size, 0, none⟩) 1 1] (fun k => okj k ∨ w5.heap.size ≤ k) (fun k => k = w5.heap.size) rfl qZ ?aP ?aK ?aF ?aO ?aB ?aS ?aL ?_; (case aP => exact ks row.f0 (n : Int) w5 w.heap.size HB5.out.size); (case aK => exact (fun k hk => ⟨.inr aA, fun he => by have := Kd.S_lt HS5.out k he.symm; omega⟩)); (case aF => exact (fun k hk => .inr (by simp at hk; omega))); (case aO => exact u125_); (case aB => exact bU HB5.out _); (case aS => exact Nat.le_trans HB5.out.size dg); (case aL => exact u124_); intro v3 w3 ho hb hg hat; have hg' : w5.grownBy w3 (Value.slice Av 0 cv).ownBlock := World.grownBy.trans (World.grownBy_alloc w5 _ _) hg; obtain ⟨A3, c3, rfl⟩ := Kd.S_slice ho; obtain ⟨es, clock, hput, hmap6, hk6, hb6⟩ := hZ (w0 := w) HM5.out HREST5.out (Kept.of_grown hg' (Kept.refl w5 okj) (fun k hk => .inl ((Kd.S_R HS5.out).1 k hk))) ho (fun k hk => hk) HTY5.out HPS.out HJX.out HST.out hb HBM.out; have HM6 := am_ hmap6; have HKB := am_ hk6; have HB6 := am_ hb6; have hz06 : w3.cell? ⟨gc, 0, none⟩ = some (.string c.f0) := hY hg' (fun k hk => HTY5.out k ((Kd.S_R HS5.out).1 k hk)) BKc5.out hz05; simp only [List.length_append, List.length_nil, List.length_cons, Nat.zero_add] at hput; clear ho hb hg hg' hat hmap6 hk6 hb6 hzr5 hz05))
           obtain ⟨es0, cl0, hmb⟩ := MapIs.block HM5.out; have HT6 := am_ (Kd.R_kept HT5.out HKB.out (fun k_ hk => by
            obtain ⟨cells, hc⟩ := Kd.R_typed HT5.out k_ hk.symm; exact Wr.not hmb hc bC bC))
           have BKr6 := am_ (ft BKr5.out HKB.out (Wr.not hmb BKr5.out bC bC)); have BKc6 := am_ (ft BKc5.out HKB.out (Wr.not hmb BKc5.out bC bC)); clear hmb; go_roundw
           case rel => exact ⟨n + 1, stepG G (c.f0, tt) row.f0 (n : Int), eY, aA, by simpa using HN, ⟨u91_⟩, HM6, HT6, BKr6, BKc6, HB6⟩
           case measure => simp; omega
          ·obtain ⟨m2, hm2⟩ : ∃ m2, X.length = m2 + 1 := ⟨X.length - 1, by rw [hX]; omega⟩; have hpp : X[m2]? = some (X[m2]'aA) := List.getElem?_eq_getElem _; rw [← hX] at HSX hlook HXL; clear hX hpos hxl2; generalize X[m2]'aA = p at hpp; have HST0 := am_ (ny hpp hm2 row.f0 (n : Int)); have HPL := am_ (HXL.out.2 p (List.mem_of_getElem? hpp)); obtain ⟨g, cap, u2, oki2, hv, hgl, hgb, hgo, hgc, hd0, hd1, hdf, hri, hok2, hsame⟩ := pa HSX.out m2 p hpp hm2.symm; injection hv with hA hy1_ hy2_
           clear hy1_ hy2_ hgc; subst hA; rw [hm2] at HSX hlook hsame; have HRI := am_ hri; have HOK2 := am_ hok2; have HSAME := am_ hsame; have HGL := am_ hgl; have HGB := am_ hgb; have HGO := am_ hgo; have HXM := am_ hm2; have hmb : m2 ≤ 2000000 := by have h1_ := HXL.out.1; have h2_ := HLQ.out; omega
           have t4 : (0 ≤ (m2 : Int)) = True := eq_true aA; have t5 : ((m2 : Int) < ((m2 + 1 : Nat) : Int)) = True := eq_true aA; clear hpp hm2 hri hok2 hsame hgl hgb hgo; by_cases hd : p.f0 = row.f0
           ·have hdb2 : (p.f0 == row.f0) = true := by simpa using hd
            have HST := am_ (show X.set m2 ⟨p.f0, p.f1 ++ [(n : Int)]⟩ = eZ X row.f0 (n : Int) from by rw [HST0.out, if_pos hd]); clear hd HST0; go_wp2; go_quiet (fail)
            have HM5 := am_ (HM.out.below (aG (Below.refl _ _) nq)); have HREST5 := am_ (show MapRest k50 50 (wr.drewN nq) w.heap.size m G jj okj (wr.drewN nq).heap.size from HREST.out.step (fun _ _ _ => rfl)); have HS5 := am_ (Kd.S_drewN HSX.out nq); have HTY5 := am_ (show ∀ k, okj k → ∃ q cells, (q = 50 ∨ q = 3) ∧ (wr.drewN nq).heap[k]? = some (.cells cells q (0, 0)) from HTY.out); have BKr5 := am_ (ah BKr.out nq); have BKc5 := am_ (ah BKc.out nq); have HT5 := am_ (Kd.R_drewN HT.out nq); have HB5 := am_ (aG HB.out nq); have HBM := am_ (Nat.le_trans HMW.out (Nat.le_refl m)); have HRI5 := am_ (Kd.R_drewN HRI.out nq); have HSAME5 := am_ (show ∀ (w1 : World) (u1 : Value) (x : Int) (okp : Nat → Prop), (wr.drewN nq).grownBy w1 u2.ownBlock → kI.R 3 w1 w.heap.size okp u1 (p.f1 ++ [x]) → (∀ k, okp k → oki2 k ∨ (wr.drewN nq).heap.size ≤ k) → Kd.S k50 50 (w1.setCell ⟨g, m2 * 2 + 1, none⟩ u1) w.heap.size (fun k => okj k ∨ (wr.drewN nq).heap.size ≤ k) (.slice (some ⟨g, 0, none⟩) (m2 + 1) cv) (X.set m2 ⟨p.f0, p.f1 ++ [x]⟩) ∧ w1.grownBy (w1.setCell ⟨g, m2 * 2 + 1, none⟩ u1) (some g) from fun w1 u1 x okp hg => HSAME.out w1 u1 x okp ⟨hg.os, hg.tape, hg.output, hg.size, hg.block⟩); have HGL5 := am_ (show g < (wr.drewN nq).heap.size from HGL.out); replace hd1 : (wr.drewN nq).cell? ⟨g, m2 * 2 + 1, none⟩ = some u2 := hd1; replace hdf : (wr.drewN nq).frozen? ⟨g, m2 * 2 + 1, none⟩ = false := hdf; clear HRI HSAME HGL hd0 HM HREST HSX HTY BKr BKc HT HB hlook hz0 hzr; generalize wr.drewN nq = w5 at HM5 HREST5 HS5 HTY5 BKr5 BKc5 HT5 HB5 HRI5 HSAME5 HGL5 hd1 hdf ⊢; have hzr5 : w5.cell? ⟨gr, 0, none⟩ = some (.int .i64 row.f0) := (bP BKr5.out 0).trans rfl; have hz05 : w5.cell? ⟨gc, 0, none⟩ = some (.string c.f0) := (bP BKc5.out 0).trans rfl; have hgc1 : g ≠ gc := fun he => by
             obtain ⟨q, cells, hq, hh⟩ := HTY5.out g HGO.out; rw [he, BKc5.out] at hh; injection hh with hh
             injection hh with _ hh
             rcases hq with rfl | rfl
             ·exact absurd hh bC
             ·exact absurd hh bC
            have hgc2 : gc ≠ g := Ne.symm hgc1; go_wp2_with (first | ((with_reducible refine ca (b := .append) (xs := #[.tmp 76, .tmp 78]) rfl ?_); at_builtin; refine Kd.R_append kI (w0 := w) w.heap.size rfl (.tmp 76) (.tmp 78) 39 3 (.int .i64 0) 8 rfl Tryz.underlying39 qT rfl bC aA u2 p.f1 (n : Int) [.int .i64 (n : Int)] (fun k => oki2 k ∨ w5.heap.size ≤ k) (fun _ => False) ?hs ?hx rfl (fun _ hk => hk.elim) (fun k hk => .inr hk) (Kd.R_mono HRI5.out (fun _ hk => .inl hk)) HB5.out HB5.out.size (by have h1_ := HPL.out; have h2_ := HLQ.out; omega) ?_; (case hs => first | rfl | (go_simp; done) | (go_simp; rfl) | (simp; done)); (case hx => first | rfl | (go_simp; done) | (go_simp; rfl) | (simp; done)); intro u3 w3 ho hb hg hat; have hne : some g ≠ u2.ownBlock := (fun he => (HOK2.out g (HRI5.out.1 g he.symm)).2.2 rfl); have hh := hg.block g HGL5.out hne; replace hd1 := Go.Proofs.YtnjjdojonflckaaGreatDoorW.PrintWords.cell_grown hg hd1 hne; have hdf3 : w3.frozen? ⟨g, m2 * 2 + 1, none⟩ = false := (by simpa [World.frozen?, hh] using hdf); obtain ⟨A3, c3, rfl⟩ := Kd.R_slice ho; have hsm := HSAME5.out w3 _ (n : Int) _ hg ho (fun _ hk => hk); have hk3 := Kept.of_grown hsm.2 (Kept.of_grown hg (Kept.refl w5 okj) (fun k hk => .inl (HOK2.out k (HRI5.out.1 k hk)).1)) (fun k hk => by injection hk with hk; rw [← hk]; exact .inl HGO.out); have hb3 := eL hb (some g) hb.size hsm.2 (fun k hk => by injection hk with hk; rw [← hk]; exact HGB.out); obtain ⟨es, clock, hput, hmap6, hk6, hb6⟩ := hZ (w0 := w) HM5.out HREST5.out hk3 hsm.1 (fun k hk => hk) HTY5.out HPS.out HJX.out HST.out hb3 HBM.out; have HM6 := am_ hmap6; have HKB := am_ hk6; have HB6 := am_ hb6; have hz06 : w3.cell? ⟨gc, 0, none⟩ = some (.string c.f0) := hY hg (fun k hk => HTY5.out k (HOK2.out k (HRI5.out.1 k hk)).1) BKc5.out hz05; simp only [List.length_append, List.length_nil, List.length_cons, Nat.zero_add] at hput HM6 HKB HB6; clear ho hb hg hat hmap6 hk6 hb6 hzr5 hz05 hne hh hsm hk3 hb3 hdf))
            obtain ⟨es0, cl0, hmb⟩ := MapIs.block HM5.out; have HT6 := am_ (Kd.R_kept HT5.out HKB.out (fun k_ hk => by
             obtain ⟨cells, hc⟩ := Kd.R_typed HT5.out k_ hk.symm; exact Wr.not hmb hc bC bC))
            have BKr6 := am_ (ft BKr5.out HKB.out (Wr.not hmb BKr5.out bC bC)); have BKc6 := am_ (ft BKc5.out HKB.out (Wr.not hmb BKc5.out bC bC)); clear hmb; go_roundw
            case rel => exact ⟨n + 1, stepG G (c.f0, tt) row.f0 (n : Int), eY, aA, by simpa using HN, ⟨u91_⟩, HM6, HT6, BKr6, BKc6, HB6⟩
            case measure => simp; omega
           ·have hdb2 : (p.f0 == row.f0) = false := by simpa using hd
            have HST := am_ (show X ++ [⟨row.f0, [(n : Int)]⟩] = eZ X row.f0 (n : Int) from by rw [HST0.out, if_neg hd]); clear hd HST0 hd1 hdf HRI HSAME; go_wp2; go_quiet (fail)
            have HM5 := am_ (HM.out.below (aG (Below.refl _ _) nq)); have HREST5 := am_ (show MapRest k50 50 (wr.drewN nq) w.heap.size m G jj okj (wr.drewN nq).heap.size from HREST.out.step (fun _ _ _ => rfl)); have HS5 := am_ (Kd.S_drewN HSX.out nq); have HTY5 := am_ (show ∀ k, okj k → ∃ q cells, (q = 50 ∨ q = 3) ∧ (wr.drewN nq).heap[k]? = some (.cells cells q (0, 0)) from HTY.out); have BKr5 := am_ (ah BKr.out nq); have BKc5 := am_ (ah BKc.out nq); have HT5 := am_ (Kd.R_drewN HT.out nq); have HB5 := am_ (aG HB.out nq); have HBM := am_ (Nat.le_trans HMW.out (Nat.le_refl m)); clear hd0 HM HREST HSX HTY BKr BKc HT HB hlook hz0 hzr; generalize wr.drewN nq = w5 at HM5 HREST5 HS5 HTY5 BKr5 BKc5 HT5 HB5 ⊢; have hzr5 : w5.cell? ⟨gr, 0, none⟩ = some (.int .i64 row.f0) := (bP BKr5.out 0).trans rfl; have hz05 : w5.cell? ⟨gc, 0, none⟩ = some (.string c.f0) := (bP BKc5.out 0).trans rfl; go_wp2_with (first | ((with_reducible refine ca (b := .append) (xs := #[.tmp 82, .tmp 88]) rfl ?_); at_builtin; refine Kd.S_append k50 (w0 := w) w.heap.size rfl (.tmp 82) (.tmp 88) 34 50 (.agg #[(.int .i64 0), (.slice none 0 0)]) 32 rfl Tryz.underlying34 m3 rfl bC aA (.slice (some ⟨g, 0, none⟩) (m2 + 1) cv) X (⟨row.f0, [(n : Int)]⟩ : S50) [.int .i64 row.f0, .slice (some ⟨w5.heap.size, 0, none⟩) 1 1] (fun k => okj k ∨ w5.heap.size ≤ k) (fun k => k = w5.heap.size) rfl qZ ?aP ?aK ?aF ?aO ?aB ?aS ?aL ?_; (case aP => exact ks row.f0 (n : Int) w5 w.heap.size HB5.out.size); (case aK => exact (fun k hk => ⟨.inr aA, fun he => by have := Kd.S_lt HS5.out k he.symm; omega⟩)); (case aF => exact (fun k hk => .inr (by simp at hk; omega))); (case aO => exact u125_); (case aB => exact bU HB5.out _); (case aS => exact Nat.le_trans HB5.out.size dg); (case aL => exact u124_); intro v3 w3 ho hb hg hat; have hg' : w5.grownBy w3 (Value.slice (some ⟨g, 0, none⟩) (m2 + 1) cv).ownBlock := World.grownBy.trans (World.grownBy_alloc w5 _ _) hg; obtain ⟨A3, c3, rfl⟩ := Kd.S_slice ho; obtain ⟨es, clock, hput, hmap6, hk6, hb6⟩ := hZ (w0 := w) HM5.out HREST5.out (Kept.of_grown hg' (Kept.refl w5 okj) (fun k hk => .inl ((Kd.S_R HS5.out).1 k hk))) ho (fun k hk => hk) HTY5.out HPS.out HJX.out HST.out hb HBM.out; have HM6 := am_ hmap6; have HKB := am_ hk6; have HB6 := am_ hb6; have hz06 : w3.cell? ⟨gc, 0, none⟩ = some (.string c.f0) := hY hg' (fun k hk => HTY5.out k ((Kd.S_R HS5.out).1 k hk)) BKc5.out hz05; simp only [List.length_append, List.length_nil, List.length_cons, Nat.zero_add] at hput; clear ho hb hg hg' hat hmap6 hk6 hb6 hzr5 hz05))
            obtain ⟨es0, cl0, hmb⟩ := MapIs.block HM5.out; have HT6 := am_ (Kd.R_kept HT5.out HKB.out (fun k_ hk => by
             obtain ⟨cells, hc⟩ := Kd.R_typed HT5.out k_ hk.symm; exact Wr.not hmb hc bC bC))
            have BKr6 := am_ (ft BKr5.out HKB.out (Wr.not hmb BKr5.out bC bC)); have BKc6 := am_ (ft BKc5.out HKB.out (Wr.not hmb BKc5.out bC bC)); clear hmb; go_roundw
            case rel => exact ⟨n + 1, stepG G (c.f0, tt) row.f0 (n : Int), eY, aA, by simpa using HN, ⟨u91_⟩, HM6, HT6, BKr6, BKc6, HB6⟩
            case measure => simp; omega
        ·obtain rfl : n = ts.length := by omega
         have h := HGS.out; rw [List.drop_eq_nil_of_le (Nat.le_refl _), fL] at h; have r1 : (((ts.length : Nat) : Int) < (ts.length : Int)) = False := eq_false aA; have HGE := am_ h; clear h; go_wp2; go_roundw
         case rel => exact ⟨j + 1, _, eY, aA, H3, ⟨⟨by rw [← HGE.out]; exact HLG.out, HCK.out.1⟩⟩, ⟨by rw [← HGE.out]; exact HM.out⟩, BKr, HB⟩
         case measure => simp; omega
      ·rw [if_neg hck] at h; cases h
     ·rw [if_neg hd2] at h; have H3 := am_ h; have hdb : (d2 != 1) = true := bne_iff_ne.2 hd2; clear h HS2 hfd hd2; go_wp2_with (first | ((with_reducible refine aX (N := 9) rfl ?_); refine fF rfl (N := 9) rfl rfl rfl (zs := #[.string (⟨#[]⟩ : ByteArray), .string (⟨#[]⟩ : ByteArray)]) (cs := #[.string c.f0, .string c.f1]) (t := 86) ?hr ?hs ?_; (case hr => exact cx); (case hs => exact cx); intro gc hg w3 hbox hb; replace HM := am_ (HM.out.below hb); replace BKr := am_ (bz BKr.out hb); replace HB := am_ (cG HB.out hb); have hz0 : w3.cell? ⟨gc, 0, none⟩ = some (.string c.f0) := (bP hbox 0).trans rfl; clear hg hbox hb hy0 hy1) | (go_at_call 110; refine (a6.calls k _ _ _ _ _ _ _ _ (Kd.C_below HF.out HB.out) HF0.out HFD.out).mono ?_; rintro e w4 ⟨rfl, hb⟩; replace HM := am_ (HM.out.below hb); replace BKr := am_ (bz BKr.out hb); replace HB := am_ (cG HB.out hb); clear hb hz0))
      go_roundw
      case rel => exact ⟨j + 1, s3, eY, aA, H3, HL, HM, BKr, HB⟩
      case measure => simp; omega
    ·obtain rfl : j = row.f1.f1.length := by omega
     have h := HS2.out; rw [List.drop_eq_nil_of_le (Nat.le_refl _), entriesW.cs] at h; obtain rfl := Option.some.inj h; have q1 : (((row.f1.f1.length : Nat) : Int) < (row.f1.f1.length : Int)) = False := eq_false aA; clear h; go_wp2; go_roundw
     case rel => exact ⟨i + 1, _, eY, aA, H2, HL, HM, HB⟩
     case measure => simp; omega
  ·obtain rfl : i = l1.length := by omega
   have h := H.out; rw [List.drop_eq_nil_of_le (Nat.le_refl _), entriesW.rs] at h; have hse : s = (GG, nn) := Option.some.inj h; have HSO := am_ (show ee (s.1.map toE) = r by rw [hse]; exact HSORT.out); clear hse; have p1 : (((l1.length : Nat) : Int) < (l1.length : Int)) = False := eq_false aA; clear h; have hsl : s.1.length ≤ 1000000 := Nat.le_trans HL.out.1.1 HL.out.2; go_wp2_with (first | ((with_reducible refine aX (N := 99) rfl ?_); refine qU (w0 := w) (B := w.heap.size) rfl (N := 99) ?hd ?hr HB.out HB.out.size ?_; (case hd => rfl); (case hr => exact cx); intro v99 w2 hs2 hb2 hb3 hv2; have HO := am_ hs2; have HV := am_ hv2; have hmm2 := HM.out.below hb3; obtain ⟨clock, hrange, hranging⟩ := Ranging.start jf hmm2; obtain ⟨rr, hrr⟩ : ∃ rr, rr = w2.heap.size := ⟨_, rfl⟩; obtain ⟨w3, hw3⟩ : ∃ w3, w3 = w2.alloc (.mapIter (some m) clock #[] clock) := ⟨_, rfl⟩; rw [← hrr, ← hw3] at hrange hranging; have hbw : Below w2.heap.size w2 w3 := (by rw [hw3]; exact bU (Below.refl _ _) _); have HRG := am_ hranging; replace HO := am_ (Kd.R_below HO.out hbw); replace HB := am_ (cG hb2 hbw); have HRB := am_ (show w.heap.size ≤ rr from by rw [hrr]; exact hb2.size); have HRM := am_ (show rr ≠ m from by rw [hrr]; exact Nat.ne_of_gt hmm2.lt); clear hs2 hb2 hb3 hv2 hmm2 hranging hrr hw3 hbw HM))
   clear hrange; go_loopg [14] (s.1.length) (fun q v14 wr => ∃ is : List Nat, s.1.length = q + is.length ∧ aa (Kd.R k76 76 wr w.heap.size (fun _ => True) v14 ((lE s.1 is).map toE)) ∧ aa (∃ b, v14.ownBlock = some b) ∧ aa (Ranging k50 50 wr w.heap.size m rr s.1 is) ∧ aa (Below w.heap.size w wr))
   case atStart => exact ⟨[], rfl, HO, HV, HRG, HB⟩
   case round =>
    clear HO HV HRG HB; obtain ⟨is, hq, HO, HV, HRG, HB⟩ := hrel; have hil : ((lE s.1 is).map toE).length = is.length := by unfold lE; simp
    rcases Ranging.next (P := Tryz.prog) HRG.out HRM.out 0 with ⟨hperm, hnext⟩ | ⟨i, g, v, w4, hgi, hni, hnext0, hrg4, hentry0, hgrow, hsz4, hR4, hle⟩
    ·have HP := am_ hperm; have hil2 : is.length ≤ 1000000 := by omega
     have HIL := am_ (show ((lE s.1 is).map toE).length < 1000000000 by omega); have HKN := am_ (Ranging.nodup HRG.out); clear hperm hil; go_wp2_with (first | (go_at_call 115; refine (qX _ _ w.heap.size w _ HB.out HO.out HV.out HIL.out).mono ?_; rintro e w5 ⟨rfl, ys, hys, hpw, hr5, hb5⟩; have HY := am_ (And.intro hys hpw); have HR5 := am_ hr5; replace HB := am_ hb5; clear hys hpw hr5 hb5))
     go_ret
     refine ⟨_, rfl, ?_, HB.out⟩; have he : ys = r := by
      rw [← HSO.out]; exact pw (HY.out.1.trans (HP.out.map toE)) HY.out.2 HKN.out
     rw [← he]; exact HR5.out
    ·cases gk with
     | zero => exact absurd hle (by rw [List.length_append, List.length_singleton]; omega)
     | succ k1 =>
      obtain ⟨Av, cv, rfl⟩ := Kd.R_slice hR4; have hnext : (Instr.next (.pointer (some ⟨rr, 0, none⟩)) false 0).run Tryz.prog wr = .ok (.tuple #[.bool true, .agg #[.string g.1.1, .string g.1.2], .slice Av g.2.length cv]) w4 := hnext0; have hentry : (Instr.entry (.pointer (some ⟨rr, 0, none⟩))).run Tryz.prog w4 = .ok (.tuple #[.agg #[.string g.1.1, .string g.1.2], .slice Av g.2.length cv]) w4 := hentry0; have HG4 := am_ hrg4; have HR4 := am_ hR4; have HO4 := am_ (R_iter HO.out HRG.out hgrow); have HB4 := am_ (eL HB.out (some rr) HB.out.size hgrow (fun b hb => by injection hb with hb; rw [← hb]; exact HRB.out)); have HGI := am_ hgi; have HLE := am_ hle; clear hnext0 hentry0 hgrow hsz4 hrg4 hR4 hgi hni hle HO HRG HB; go_wp2_with (first | ((with_reducible refine aX (N := 15) rfl ?_); refine fF rfl (N := 15) rfl rfl rfl (zs := #[.string (⟨#[]⟩ : ByteArray), .string (⟨#[]⟩ : ByteArray)]) (cs := #[.string g.1.1, .string g.1.2]) (t := 147) ?hr ?hs ?_; (case hr => exact cx); (case hs => exact cx); intro gp hg w5 hbox hb; replace HG4 := am_ (HG4.out.below hb); replace HR4 := am_ (Kd.R_below HR4.out hb); replace HO4 := am_ (Kd.R_below HO4.out hb); replace HB4 := am_ (cG HB4.out hb); have hz0 : w5.cell? ⟨gp, 0, none⟩ = some (.string g.1.1) := (bP hbox 0).trans rfl; have hz1 : w5.cell? ⟨gp, 1, none⟩ = some (.string g.1.2) := (bP hbox 1).trans rfl; clear hg hbox hb) | ((with_reducible refine ca (b := .append) (xs := #[.tmp 107, .tmp 114]) rfl ?_); at_builtin; refine Kd.R_append k76 (w0 := w) w.heap.size rfl (.tmp 107) (.tmp 114) 25 76 (.agg #[(.string ⟨#[]⟩), (.string ⟨#[]⟩), (.slice none 0 0)]) 56 rfl Tryz.underlying25 je rfl bC aA u14 ((lE s.1 is).map toE) (toE g) [.string g.1.1, .string g.1.2, .slice Av g.2.length cv] (fun _ => True) (fun k => (True ∧ w.heap.size ≤ k ∧ k < w5.heap.size ∧ ∃ q, q ∈ 50 :: k50.E ∧ ∃ cells, w5.heap[k]? = some (.cells cells q (0, 0)))) ?hs ?hx ?aP ?aK (fun _ _ => trivial) HO4.out HB4.out HB4.out.size ?aL ?_; (case hs => first | rfl | (go_simp; done) | (go_simp; rfl)); (case hx => first | rfl | (go_simp; done) | (go_simp; rfl)); (case aP => exact jS _ _ _ (toE g) (Kd.R_bound HR4.out)); (case aK => exact (fun k hk => ⟨trivial, fun he => nL hk.2.2.2 (Kd.R_typed HO4.out k he.symm)⟩)); (case aL => rw [hil]; omega); intro v8 w8 ho hb hg hat; have HO8 := am_ ho; have HG8 := am_ (HG4.out.step (E := 76) bC hg (fun b hb => Kd.R_typed HO4.out b hb)); have HV8 := am_ (show ∃ b, v8.ownBlock = some b from hat.elim (fun h => by obtain ⟨b, hb⟩ := HV.out; exact ⟨b, h.trans hb⟩) (fun ⟨b, hb, _⟩ => ⟨b, hb⟩)); have HB8 := am_ hb; clear ho hb hg hat hz0 hz1))
      go_roundg k1
      case measure => omega
      case rel => exact ⟨is ++ [i], by rw [List.length_append, List.length_singleton]; omega, ⟨by rw [pG _ _ HGI.out, List.map_append]; exact HO8.out⟩, HV8, HG8, HB8⟩
end
theorem entriesW.cs_mono (fs : List S92) (id : Int) (k : Nat) : ∀ (cs : List S86) (s : Gs × Nat), LeO (entriesW.cs k fs id cs s) (entriesW.cs (k + 1) fs id cs s)
 | [], _ => LeO.refl _
 | c :: cs, s => by
  unfold entriesW.cs
  exact LeO.bind (M2.o _ _) (fun _ => LeO.ite (LeO.bind (M1.o _) (fun _ => LeO.ite (entriesW.cs_mono fs id k cs _) (LeO.refl _))) (entriesW.cs_mono fs id k cs _))
theorem entriesW.rs_mono (fs : List S92) (k : Nat) : ∀ (rs : List S46) (s : Gs × Nat), LeO (entriesW.rs k fs rs s) (entriesW.rs (k + 1) fs rs s)
 | [], _ => LeO.refl _
 | r :: rs, s => by
  unfold entriesW.rs
  exact LeO.bind (entriesW.cs_mono _ _ _ _ _) (fun _ => entriesW.rs_mono fs k rs _)
def cJ.f (k : Nat) (l0 : List S92) (l1 : List S46) : Option (List S76) := entriesW.f k l0 l1
theorem cJ.mono (a0 : List S92) (a1 : List S46) (k : Nat) : LeO (cJ.f k a0 a1) (cJ.f (k + 1) a0 a1) := by
 unfold cJ.f entriesW.f
 exact LeO.bind (entriesW.rs_mono _ _ _ _) (fun _ => LeO.refl _)
instance (k : Nat) : M2 cJ.f k := ⟨fun a0 a1 => cJ.mono a0 a1 k⟩
theorem cJ.calls (k : Nat) (A0 : Option Addr) (c0 : Nat) (l0 : List (S92)) (A1 : Option Addr) (c1 : Nat) (l1 : List (S46)) (r : List (S76)) (w : World) (hG : StopsIn w) (hr0 : Kd.C k92 w A0 l0.length l0) (hc0 : l0.length ≤ c0) (hr1 : Kd.C k46 w A1 l1.length l1) (hc1 : l1.length ≤ c1) (h : cJ.f k l0 l1 = some r) :
  Calls Tryz.prog 68 #[.slice A0 l0.length c0, .slice A1 l1.length c1] w fun e w' => ∃ v0_ : Value, e = .returned (v0_) ∧ Kd.R k76 76 w' w.heap.size (fun _ => True) v0_ r ∧ Below w.heap.size w w' := entriesW.calls k A0 c0 l0 A1 c1 l1 r w hG hr0 hc0 hr1 hc1 h
end
end Go.Proofs.YtnjjdojonflckaaGreatDoor.PFnExactIndexOk
