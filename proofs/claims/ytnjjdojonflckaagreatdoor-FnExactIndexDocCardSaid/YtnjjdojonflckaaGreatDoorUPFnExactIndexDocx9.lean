/- Contracts of Go functions, each told as a plain Lean function. -/
import Derived.Test.YtnjjdojonflckaaGreatDoorUPFnExactIndexDocx0
namespace Go.Proofs.YtnjjdojonflckaaGreatDoor.PFnExactIndexDoc
open Go.RowKit Go.Proofs.YtnjjdojonflckaaGreatDoorW.PrintWords Go.Proofs.YtnjjdojonflckaaGreatDoorW.PrintLast Go.Proofs.YtnjjdojonflckaaGreatDoorW.PrintMore
attribute [local go_sem] aW aX bQ bO cm cl bu br bN bP
set_option linter.unusedVariables false
set_option linter.unusedSimpArgs false
set_option maxHeartbeats 8000000
set_option maxRecDepth 100000
def dz.f (a0_0 : ByteArray) (a0_1 : Int) (a0_2 : Int) (a1 : Int) : Option (Int) := if (wrap64 (a1 - (a0_0.size : Int))) < 0 then (some (-1)) else (some (wrap64 (a1 - (a0_0.size : Int))))
theorem dz.calls (a0_0 : ByteArray) (a0_1 : Int) (a0_2 : Int) (a1 : Int) (r : Int) (w : World) (h : dz.f a0_0 a0_1 a0_2 a1 = some r) :
  Calls Tryz.prog 102 #[.agg #[.string a0_0, .int .i64 a0_1, .int .i64 a0_2], .int .i64 a1] w fun e w' => e = .returned (.int .i64 r) ∧ Below w.heap.size w w' := by
 have hu127 := Tryz.underlying127; have HB := am_ (Below.refl w.heap.size w); have H := h; clear h; unfold dz.f at H
 by_cases c3 : (wrap64 (a1 - (a0_0.size : Int))) < 0
 ·rw [if_pos c3] at H; have c3b0 := decide_eq_true c3; clear c3; obtain rfl := si_ H; go_enter Tryz.func102, Tryz.ntmps102
  go_wp2_with (first | ((with_reducible refine gt_ 2 ?_); refine bx_ 2 #[.string a0_0, .int .i64 a0_1, .int .i64 a0_2] 127 ?_; intro gb101 hg w4 hbox hb; have BK101 := am_ (hbox); have GE101 := gw_ HB hg; replace HB := bs_ HB hb; clear hb hbox hg; obtain ⟨hcz5_0, hcz5_1, hcz5_2, hfz5_0, hfz5_1, hfz5_2⟩ := bR BK101.out))
  go_ret
  exact ⟨u0_, bw_ HB⟩
 ·rw [if_neg c3] at H; have c3b0 := decide_eq_false c3; clear c3; obtain rfl := si_ H; go_enter Tryz.func102, Tryz.ntmps102
  go_wp2_with (first | ((with_reducible refine gt_ 2 ?_); refine bx_ 2 #[.string a0_0, .int .i64 a0_1, .int .i64 a0_2] 127 ?_; intro gb101 hg w6 hbox hb; have BK101 := am_ (hbox); have GE101 := gw_ HB hg; replace HB := bs_ HB hb; clear hb hbox hg; obtain ⟨hcz7_0, hcz7_1, hcz7_2, hfz7_0, hfz7_1, hfz7_2⟩ := bR BK101.out))
  go_ret
  exact ⟨u0_, bw_ HB⟩
def bn.l0 : Nat → List (dU) → Int → Int → Option (Int)
 | 0, _, _, _ => none
 | k + 1, x0, x1, x5 => if x5 < (x0.length : Int) then (if 0 ≤ x5 then ((dz.f ((dn x0 x5).f0) ((dn x0 x5).f1) ((dn x0 x5).f2) x1).bind fun t103 => (if t103 < 0 then (some (-1)) else (bn.l0 k x0 t103 (wrap64 (x5 + 1))))) else (none)) else (some x1)
def bn.f (k : Nat) (l0 : List (dU)) (a1 : Int) : Option (Int) := if (wrap64 (a1 - (l0.length : Int))) < 0 then (some (-1)) else (bn.l0 k l0 (wrap64 (a1 - (l0.length : Int))) 0)
theorem bn.calls (k : Nat) (A0 : Option Addr) (c0 : Nat) (l0 : List (dU)) (a1 : Int) (r : Int) (w : World) (hr0 : Kd.C nH w A0 l0.length l0) (hc0 : l0.length ≤ c0) (h : bn.f k l0 a1 = some r) :
  Calls Tryz.prog 57 #[.slice A0 l0.length c0, .int .i64 a1] w fun e w' => e = .returned (.int .i64 r) ∧ Below w.heap.size w w' := by
 have hu127 := Tryz.underlying127; have HR0 := am_ hr0; have HC0 := am_ hc0; clear hr0 hc0; have HB := am_ (Below.refl w.heap.size w); have H := h; clear h; unfold bn.f at H
 by_cases c3 : (wrap64 (a1 - (l0.length : Int))) < 0
 ·rw [if_pos c3] at H; have c3b0 := decide_eq_true c3; clear c3; obtain rfl := si_ H; go_enter Tryz.func57, Tryz.ntmps57
  go_wp2; go_ret
  exact ⟨u0_, bw_ HB⟩
 ·rw [if_neg c3] at H; have c3b0 := decide_eq_false c3; clear c3; have H' := am_ H; clear H; go_enter Tryz.func57, Tryz.ntmps57
  go_wp2; go_loopg [1, 5] k (fun kq v1 v5 w' => ∃ (x1_1 : Int) (x5_1 : Int), v1 = .int .i64 x1_1 ∧ v5 = .int .i64 x5_1 ∧ aa (bn.l0 kq l0 x1_1 x5_1 = some r) ∧ aa (kq ≤ k) ∧ aa (Below w.heap.size w w'))
  case atStart => exact ⟨(wrap64 (a1 - (l0.length : Int))), (0), u1_, u1_, H', ⟨Nat.le_refl _⟩, ⟨bw_ HB⟩⟩
  case round =>
   clear H'; try clear c3
   try clear c3b0
   obtain ⟨x1_1, x5_1, rfl, rfl, HA, HK1, HB⟩ := hrel; cases gk with
   | zero => exact absurd HA.out (by simp [bn.l0])
   | succ k1 =>
    have H := HA.out; clear HA; simp only [bn.l0] at H; by_cases c4 : x5_1 < (l0.length : Int)
    ·rw [if_pos c4] at H; have c4b0 := decide_eq_true c4; clear c4; obtain ⟨c5b0, H⟩ := gd_ H; obtain ⟨t103, A6, H⟩ := bi_ H; have HC_ := am_ H; clear H; obtain ⟨ad102, e102, hx102_0, hx102_1, hx102_2⟩ := o7 HR0.out x5_1 od_ od_; cases e102; replace hx102_0 := cb_ HB hx102_0; replace hx102_1 := cb_ HB hx102_1; replace hx102_2 := cb_ HB hx102_2; obtain ⟨p102, q102⟩ := pt_ x5_1 l0.length; have H := HC_.out; clear HC_; by_cases c7 : t103 < 0
     ·rw [if_pos c7] at H; have c7b0 := decide_eq_true c7; clear c7; obtain rfl := si_ H; (first | rw [c7b0] | (simp only [ap, au]; rw [c7b0]) | skip)
      go_wp2_with (first | ((with_reducible refine gt_ 23 ?_); refine gB_ 23 Tryz.func102 (dz.calls ((dn l0 x5_1).f0) ((dn l0 x5_1).f1) ((dn l0 x5_1).f2) x1_1 t103 _ A6.out) ?_; intro w8 hb; replace HB := bs_ HB hb; (try clear hb)))
      go_ret
      exact ⟨u0_, bw_ HB⟩
     ·rw [if_neg c7] at H; have c7b0 := decide_eq_false c7; clear c7; have H' := am_ H; clear H; (first | rw [c7b0] | (simp only [ap, au]; rw [c7b0]) | skip)
      go_wp2_with (first | ((with_reducible refine gt_ 23 ?_); refine gB_ 23 Tryz.func102 (dz.calls ((dn l0 x5_1).f0) ((dn l0 x5_1).f1) ((dn l0 x5_1).f2) x1_1 t103 _ A6.out) ?_; intro w9 hb; replace HB := bs_ HB hb; (try clear hb)))
      go_roundg k1
      case measure => have := HK1.out; omega
      case rel => exact ⟨(t103), (wrap64 (x5_1 + 1)), u1_, u1_, H', ⟨dm⟩, ⟨bw_ HB⟩⟩
    ·rw [if_neg c4] at H; have c4b0 := decide_eq_false c4; clear c4; obtain rfl := si_ H; go_wp2; go_ret
     exact ⟨u0_, bw_ HB⟩
def dL.f (a0_0 : ByteArray) (a0_1 : ByteArray) (a1 : Int) : Option (Int) := if (wrap64 (a1 - (a0_0.size : Int))) < 0 then (some (-1)) else (if (wrap64 ((wrap64 (a1 - (a0_0.size : Int))) - (a0_1.size : Int))) < 0 then (some (-1)) else (some (wrap64 ((wrap64 (a1 - (a0_0.size : Int))) - (a0_1.size : Int)))))
theorem dL.calls (a0_0 : ByteArray) (a0_1 : ByteArray) (a1 : Int) (r : Int) (w : World) (h : dL.f a0_0 a0_1 a1 = some r) :
  Calls Tryz.prog 182 #[.agg #[.string a0_0, .string a0_1], .int .i64 a1] w fun e w' => e = .returned (.int .i64 r) ∧ Below w.heap.size w w' := by
 have hu200 := Tryz.underlying200; have HB := am_ (Below.refl w.heap.size w); have H := h; clear h; unfold dL.f at H
 by_cases c3 : (wrap64 (a1 - (a0_0.size : Int))) < 0
 ·rw [if_pos c3] at H; have c3b0 := decide_eq_true c3; clear c3; obtain rfl := si_ H; go_enter Tryz.func182, Tryz.ntmps182
  go_wp2_with (first | ((with_reducible refine gt_ 2 ?_); refine bx_ 2 #[.string a0_0, .string a0_1] 200 ?_; intro gb104 hg w4 hbox hb; have BK104 := am_ (hbox); have GE104 := gw_ HB hg; replace HB := bs_ HB hb; clear hb hbox hg; obtain ⟨hcz5_0, hcz5_1, hfz5_0, hfz5_1⟩ := bj BK104.out))
  go_ret
  exact ⟨u0_, bw_ HB⟩
 ·rw [if_neg c3] at H; have c3b0 := decide_eq_false c3; clear c3; by_cases c6 : (wrap64 ((wrap64 (a1 - (a0_0.size : Int))) - (a0_1.size : Int))) < 0
  ·rw [if_pos c6] at H; have c6b0 := decide_eq_true c6; clear c6; obtain rfl := si_ H; go_enter Tryz.func182, Tryz.ntmps182
   go_wp2_with (first | ((with_reducible refine gt_ 2 ?_); refine bx_ 2 #[.string a0_0, .string a0_1] 200 ?_; intro gb104 hg w7 hbox hb; have BK104 := am_ (hbox); have GE104 := gw_ HB hg; replace HB := bs_ HB hb; clear hb hbox hg; obtain ⟨hcz8_0, hcz8_1, hfz8_0, hfz8_1⟩ := bj BK104.out))
   go_ret
   exact ⟨u0_, bw_ HB⟩
  ·rw [if_neg c6] at H; have c6b0 := decide_eq_false c6; clear c6; obtain rfl := si_ H; go_enter Tryz.func182, Tryz.ntmps182
   go_wp2_with (first | ((with_reducible refine gt_ 2 ?_); refine bx_ 2 #[.string a0_0, .string a0_1] 200 ?_; intro gb104 hg w9 hbox hb; have BK104 := am_ (hbox); have GE104 := gw_ HB hg; replace HB := bs_ HB hb; clear hb hbox hg; obtain ⟨hcz10_0, hcz10_1, hfz10_0, hfz10_1⟩ := bj BK104.out))
   go_ret
   exact ⟨u0_, bw_ HB⟩
def bM.l0 : Nat → List (dY) → Int → Int → Option (Int)
 | 0, _, _, _ => none
 | k + 1, x0, x1, x5 => if x5 < (x0.length : Int) then (if 0 ≤ x5 then ((dL.f ((d7 x0 x5).f0) ((d7 x0 x5).f1) x1).bind fun t106 => (if t106 < 0 then (some (-1)) else (bM.l0 k x0 t106 (wrap64 (x5 + 1))))) else (none)) else (some x1)
def bM.f (k : Nat) (l0 : List (dY)) (a1 : Int) : Option (Int) := if (wrap64 (a1 - (l0.length : Int))) < 0 then (some (-1)) else (bM.l0 k l0 (wrap64 (a1 - (l0.length : Int))) 0)
theorem bM.calls (k : Nat) (A0 : Option Addr) (c0 : Nat) (l0 : List (dY)) (a1 : Int) (r : Int) (w : World) (hr0 : Kd.C i1 w A0 l0.length l0) (hc0 : l0.length ≤ c0) (h : bM.f k l0 a1 = some r) :
  Calls Tryz.prog 162 #[.slice A0 l0.length c0, .int .i64 a1] w fun e w' => e = .returned (.int .i64 r) ∧ Below w.heap.size w w' := by
 have hu200 := Tryz.underlying200; have HR0 := am_ hr0; have HC0 := am_ hc0; clear hr0 hc0; have HB := am_ (Below.refl w.heap.size w); have H := h; clear h; unfold bM.f at H
 by_cases c3 : (wrap64 (a1 - (l0.length : Int))) < 0
 ·rw [if_pos c3] at H; have c3b0 := decide_eq_true c3; clear c3; obtain rfl := si_ H; go_enter Tryz.func162, Tryz.ntmps162
  go_wp2; go_ret
  exact ⟨u0_, bw_ HB⟩
 ·rw [if_neg c3] at H; have c3b0 := decide_eq_false c3; clear c3; have H' := am_ H; clear H; go_enter Tryz.func162, Tryz.ntmps162
  go_wp2; go_loopg [1, 5] k (fun kq v1 v5 w' => ∃ (x1_1 : Int) (x5_1 : Int), v1 = .int .i64 x1_1 ∧ v5 = .int .i64 x5_1 ∧ aa (bM.l0 kq l0 x1_1 x5_1 = some r) ∧ aa (kq ≤ k) ∧ aa (Below w.heap.size w w'))
  case atStart => exact ⟨(wrap64 (a1 - (l0.length : Int))), (0), u1_, u1_, H', ⟨Nat.le_refl _⟩, ⟨bw_ HB⟩⟩
  case round =>
   clear H'; try clear c3
   try clear c3b0
   obtain ⟨x1_1, x5_1, rfl, rfl, HA, HK1, HB⟩ := hrel; cases gk with
   | zero => exact absurd HA.out (by simp [bM.l0])
   | succ k1 =>
    have H := HA.out; clear HA; simp only [bM.l0] at H; by_cases c4 : x5_1 < (l0.length : Int)
    ·rw [if_pos c4] at H; have c4b0 := decide_eq_true c4; clear c4; obtain ⟨c5b0, H⟩ := gd_ H; obtain ⟨t106, A6, H⟩ := bi_ H; have HC_ := am_ H; clear H; obtain ⟨ad105, e105, hx105_0, hx105_1⟩ := oY HR0.out x5_1 od_ od_; cases e105; replace hx105_0 := cb_ HB hx105_0; replace hx105_1 := cb_ HB hx105_1; obtain ⟨p105, q105⟩ := pt_ x5_1 l0.length; have H := HC_.out; clear HC_; by_cases c7 : t106 < 0
     ·rw [if_pos c7] at H; have c7b0 := decide_eq_true c7; clear c7; obtain rfl := si_ H; (first | rw [c7b0] | (simp only [ap, au]; rw [c7b0]) | skip)
      go_wp2_with (first | ((with_reducible refine gt_ 23 ?_); refine gB_ 23 Tryz.func182 (dL.calls ((d7 l0 x5_1).f0) ((d7 l0 x5_1).f1) x1_1 t106 _ A6.out) ?_; intro w8 hb; replace HB := bs_ HB hb; (try clear hb)))
      go_ret
      exact ⟨u0_, bw_ HB⟩
     ·rw [if_neg c7] at H; have c7b0 := decide_eq_false c7; clear c7; have H' := am_ H; clear H; (first | rw [c7b0] | (simp only [ap, au]; rw [c7b0]) | skip)
      go_wp2_with (first | ((with_reducible refine gt_ 23 ?_); refine gB_ 23 Tryz.func182 (dL.calls ((d7 l0 x5_1).f0) ((d7 l0 x5_1).f1) x1_1 t106 _ A6.out) ?_; intro w9 hb; replace HB := bs_ HB hb; (try clear hb)))
      go_roundg k1
      case measure => have := HK1.out; omega
      case rel => exact ⟨(t106), (wrap64 (x5_1 + 1)), u1_, u1_, H', ⟨dm⟩, ⟨bw_ HB⟩⟩
    ·rw [if_neg c4] at H; have c4b0 := decide_eq_false c4; clear c4; obtain rfl := si_ H; go_wp2; go_ret
     exact ⟨u0_, bw_ HB⟩
def ea.f (k : Nat) (a0_0 : ByteArray) (l0_1 : List (dY)) (a1 : Int) : Option (Int) := if (wrap64 (a1 - (a0_0.size : Int))) < 0 then (some (-1)) else ((bM.f k l0_1 (wrap64 (a1 - (a0_0.size : Int)))).bind fun t108 => (if t108 < 0 then (some (-1)) else (some t108)))
theorem ea.calls (k : Nat) (a0_0 : ByteArray) (A0_1 : Option Addr) (c0_1 : Nat) (l0_1 : List (dY)) (a1 : Int) (r : Int) (w : World) (hr0_1 : Kd.C i1 w A0_1 l0_1.length l0_1) (hc0_1 : l0_1.length ≤ c0_1) (h : ea.f k a0_0 l0_1 a1 = some r) :
  Calls Tryz.prog 143 #[.agg #[.string a0_0, .slice A0_1 l0_1.length c0_1], .int .i64 a1] w fun e w' => e = .returned (.int .i64 r) ∧ Below w.heap.size w w' := by
 have hu131 := Tryz.underlying131; have HR0_1 := am_ hr0_1; have HC0_1 := am_ hc0_1; clear hr0_1 hc0_1; have HB := am_ (Below.refl w.heap.size w); have H := h; clear h; unfold ea.f at H
 by_cases c3 : (wrap64 (a1 - (a0_0.size : Int))) < 0
 ·rw [if_pos c3] at H; have c3b0 := decide_eq_true c3; clear c3; obtain rfl := si_ H; go_enter Tryz.func143, Tryz.ntmps143
  go_wp2_with (first | ((with_reducible refine gt_ 2 ?_); refine bx_ 2 #[.string a0_0, .slice A0_1 l0_1.length c0_1] 131 ?_; intro gb107 hg w4 hbox hb; have BK107 := am_ (hbox); have GE107 := gw_ HB hg; replace HB := bs_ HB hb; clear hb hbox hg; obtain ⟨hcz5_0, hcz5_1, hfz5_0, hfz5_1⟩ := bj BK107.out))
  go_ret
  exact ⟨u0_, bw_ HB⟩
 ·rw [if_neg c3] at H; have c3b0 := decide_eq_false c3; clear c3; obtain ⟨t108, A6, H⟩ := bi_ H; by_cases c7 : t108 < 0
  ·rw [if_pos c7] at H; have c7b0 := decide_eq_true c7; clear c7; obtain rfl := si_ H; go_enter Tryz.func143, Tryz.ntmps143
   go_wp2_with (first | ((with_reducible refine gt_ 2 ?_); refine bx_ 2 #[.string a0_0, .slice A0_1 l0_1.length c0_1] 131 ?_; intro gb107 hg w8 hbox hb; have BK107 := am_ (hbox); have GE107 := gw_ HB hg; replace HB := bs_ HB hb; clear hb hbox hg; obtain ⟨hcz9_0, hcz9_1, hfz9_0, hfz9_1⟩ := bj BK107.out) | ((with_reducible refine gt_ 15 ?_); refine gB_ 15 Tryz.func162 (bM.calls k _ _ l0_1 (wrap64 (a1 - (a0_0.size : Int))) t108 _ (kc_ HR0_1 HB) HC0_1.out A6.out) ?_; intro w10 hb; replace HB := bs_ HB hb; (try clear hb)))
   go_ret
   exact ⟨u0_, bw_ HB⟩
  ·rw [if_neg c7] at H; have c7b0 := decide_eq_false c7; clear c7; obtain rfl := si_ H; go_enter Tryz.func143, Tryz.ntmps143
   go_wp2_with (first | ((with_reducible refine gt_ 2 ?_); refine bx_ 2 #[.string a0_0, .slice A0_1 l0_1.length c0_1] 131 ?_; intro gb107 hg w11 hbox hb; have BK107 := am_ (hbox); have GE107 := gw_ HB hg; replace HB := bs_ HB hb; clear hb hbox hg; obtain ⟨hcz12_0, hcz12_1, hfz12_0, hfz12_1⟩ := bj BK107.out) | ((with_reducible refine gt_ 15 ?_); refine gB_ 15 Tryz.func162 (bM.calls k _ _ l0_1 (wrap64 (a1 - (a0_0.size : Int))) t108 _ (kc_ HR0_1 HB) HC0_1.out A6.out) ?_; intro w13 hb; replace HB := bs_ HB hb; (try clear hb)))
   go_ret
   exact ⟨u0_, bw_ HB⟩
def eh.f (k : Nat) (a0_0 : Int) (a0_1 : ByteArray) (l0_2 : List (dY)) (a1 : Int) : Option (Int) := (ea.f k a0_1 l0_2 a1).bind fun t110 => (if t110 < 0 then (some (-1)) else (some t110))
theorem eh.calls (k : Nat) (a0_0 : Int) (a0_1 : ByteArray) (A0_2 : Option Addr) (c0_2 : Nat) (l0_2 : List (dY)) (a1 : Int) (r : Int) (w : World) (hr0_2 : Kd.C i1 w A0_2 l0_2.length l0_2) (hc0_2 : l0_2.length ≤ c0_2) (h : eh.f k a0_0 a0_1 l0_2 a1 = some r) :
  Calls Tryz.prog 103 #[.agg #[.int .i64 a0_0, .string a0_1, .slice A0_2 l0_2.length c0_2], .int .i64 a1] w fun e w' => e = .returned (.int .i64 r) ∧ Below w.heap.size w w' := by
 have hu133 := Tryz.underlying133; have hu131 := Tryz.underlying131; have HR0_2 := am_ hr0_2; have HC0_2 := am_ hc0_2; clear hr0_2 hc0_2; have HB := am_ (Below.refl w.heap.size w); have H := h; clear h; unfold eh.f at H
 obtain ⟨t110, A3, H⟩ := bi_ H; by_cases c4 : t110 < 0
 ·rw [if_pos c4] at H; have c4b0 := decide_eq_true c4; clear c4; obtain rfl := si_ H; go_enter Tryz.func103, Tryz.ntmps103
  go_wp2_with (first | ((with_reducible refine gt_ 2 ?_); refine bx_ 2 #[.int .i64 a0_0, .string a0_1, .slice A0_2 l0_2.length c0_2] 133 ?_; intro gb109 hg w5 hbox hb; have BK109 := am_ (hbox); have GE109 := gw_ HB hg; replace HB := bs_ HB hb; clear hb hbox hg; obtain ⟨hcz6_0, hcz6_1, hcz6_2, hfz6_0, hfz6_1, hfz6_2⟩ := bR BK109.out) | ((with_reducible refine gt_ 8 ?_); refine gB_ 8 Tryz.func143 (ea.calls k a0_1 _ _ l0_2 a1 t110 _ (kc_ HR0_2 HB) HC0_2.out A3.out) ?_; intro w7 hb; replace HB := bs_ HB hb; (try clear hb)))
  go_ret
  exact ⟨u0_, bw_ HB⟩
 ·rw [if_neg c4] at H; have c4b0 := decide_eq_false c4; clear c4; obtain rfl := si_ H; go_enter Tryz.func103, Tryz.ntmps103
  go_wp2_with (first | ((with_reducible refine gt_ 2 ?_); refine bx_ 2 #[.int .i64 a0_0, .string a0_1, .slice A0_2 l0_2.length c0_2] 133 ?_; intro gb109 hg w8 hbox hb; have BK109 := am_ (hbox); have GE109 := gw_ HB hg; replace HB := bs_ HB hb; clear hb hbox hg; obtain ⟨hcz9_0, hcz9_1, hcz9_2, hfz9_0, hfz9_1, hfz9_2⟩ := bR BK109.out) | ((with_reducible refine gt_ 8 ?_); refine gB_ 8 Tryz.func143 (ea.calls k a0_1 _ _ l0_2 a1 t110 _ (kc_ HR0_2 HB) HC0_2.out A3.out) ?_; intro w10 hb; replace HB := bs_ HB hb; (try clear hb)))
  go_ret
  exact ⟨u0_, bw_ HB⟩
def bS.l0 : Nat → List (dS) → Int → Int → Option (Int)
 | 0, _, _, _ => none
 | k + 1, x0, x1, x5 => if x5 < (x0.length : Int) then (if 0 ≤ x5 then ((eh.f k ((cX x0 x5).f0) ((cX x0 x5).f1.f0) ((cX x0 x5).f1.f1) x1).bind fun t112 => (if t112 < 0 then (some (-1)) else (bS.l0 k x0 t112 (wrap64 (x5 + 1))))) else (none)) else (some x1)
def bS.f (k : Nat) (l0 : List (dS)) (a1 : Int) : Option (Int) := if (wrap64 (a1 - (l0.length : Int))) < 0 then (some (-1)) else (bS.l0 k l0 (wrap64 (a1 - (l0.length : Int))) 0)
theorem bS.calls (k : Nat) (A0 : Option Addr) (c0 : Nat) (l0 : List (dS)) (a1 : Int) (r : Int) (w : World) (hr0 : Kd.C nc w A0 l0.length l0) (hc0 : l0.length ≤ c0) (h : bS.f k l0 a1 = some r) :
  Calls Tryz.prog 58 #[.slice A0 l0.length c0, .int .i64 a1] w fun e w' => e = .returned (.int .i64 r) ∧ Below w.heap.size w w' := by
 have hu133 := Tryz.underlying133; have HR0 := am_ hr0; have HC0 := am_ hc0; clear hr0 hc0; have HB := am_ (Below.refl w.heap.size w); have H := h; clear h; unfold bS.f at H
 by_cases c3 : (wrap64 (a1 - (l0.length : Int))) < 0
 ·rw [if_pos c3] at H; have c3b0 := decide_eq_true c3; clear c3; obtain rfl := si_ H; go_enter Tryz.func58, Tryz.ntmps58
  go_wp2; go_ret
  exact ⟨u0_, bw_ HB⟩
 ·rw [if_neg c3] at H; have c3b0 := decide_eq_false c3; clear c3; have H' := am_ H; clear H; go_enter Tryz.func58, Tryz.ntmps58
  go_wp2; go_loopg [1, 5] k (fun kq v1 v5 w' => ∃ (x1_1 : Int) (x5_1 : Int), v1 = .int .i64 x1_1 ∧ v5 = .int .i64 x5_1 ∧ aa (bS.l0 kq l0 x1_1 x5_1 = some r) ∧ aa (kq ≤ k) ∧ aa (Below w.heap.size w w'))
  case atStart => exact ⟨(wrap64 (a1 - (l0.length : Int))), (0), u1_, u1_, H', ⟨Nat.le_refl _⟩, ⟨bw_ HB⟩⟩
  case round =>
   clear H'; try clear c3
   try clear c3b0
   obtain ⟨x1_1, x5_1, rfl, rfl, HA, HK1, HB⟩ := hrel; cases gk with
   | zero => exact absurd HA.out (by simp [bS.l0])
   | succ k1 =>
    have H := HA.out; clear HA; simp only [bS.l0] at H; by_cases c4 : x5_1 < (l0.length : Int)
    ·rw [if_pos c4] at H; have c4b0 := decide_eq_true c4; clear c4; obtain ⟨c5b0, H⟩ := gd_ H; obtain ⟨t112, A6, H⟩ := bi_ H; have HC_ := am_ H; clear H; obtain ⟨ad111, A111_2, c111_2, e111, hx111_0, hx111_1, hx111_2, hl111_2, hi111_2⟩ := pp HR0.out x5_1 od_ od_; cases e111; replace hx111_0 := cb_ HB hx111_0; replace hx111_1 := cb_ HB hx111_1; replace hx111_2 := cb_ HB hx111_2; have HR111_2 := am_ hi111_2; have HC111_2 := am_ hl111_2; clear hi111_2 hl111_2; obtain ⟨p111, q111⟩ := pt_ x5_1 l0.length; have H := HC_.out; clear HC_; by_cases c7 : t112 < 0
     ·rw [if_pos c7] at H; have c7b0 := decide_eq_true c7; clear c7; obtain rfl := si_ H; (first | rw [c7b0] | (simp only [ap, au]; rw [c7b0]) | skip)
      go_wp2_with (first | ((with_reducible refine gt_ 23 ?_); refine gB_ 23 Tryz.func103 (eh.calls k1 ((cX l0 x5_1).f0) ((cX l0 x5_1).f1.f0) _ _ ((cX l0 x5_1).f1.f1) x1_1 t112 _ (kc_ HR111_2 HB) HC111_2.out A6.out) ?_; intro w8 hb; replace HB := bs_ HB hb; (try clear hb)))
      go_ret
      exact ⟨u0_, bw_ HB⟩
     ·rw [if_neg c7] at H; have c7b0 := decide_eq_false c7; clear c7; have H' := am_ H; clear H; (first | rw [c7b0] | (simp only [ap, au]; rw [c7b0]) | skip)
      go_wp2_with (first | ((with_reducible refine gt_ 23 ?_); refine gB_ 23 Tryz.func103 (eh.calls k1 ((cX l0 x5_1).f0) ((cX l0 x5_1).f1.f0) _ _ ((cX l0 x5_1).f1.f1) x1_1 t112 _ (kc_ HR111_2 HB) HC111_2.out A6.out) ?_; intro w9 hb; replace HB := bs_ HB hb; (try clear hb)))
      go_roundg k1
      case measure => have := HK1.out; omega
      case rel => exact ⟨(t112), (wrap64 (x5_1 + 1)), u1_, u1_, H', ⟨dm⟩, ⟨bw_ HB⟩⟩
    ·rw [if_neg c4] at H; have c4b0 := decide_eq_false c4; clear c4; obtain rfl := si_ H; go_wp2; go_ret
     exact ⟨u0_, bw_ HB⟩
def ef.f (l0 : List Int) (a1 : Int) : Option (Int) := if (wrap64 (a1 - (l0.length : Int))) < 0 then (some (-1)) else (some (wrap64 (a1 - (l0.length : Int))))
theorem ef.calls (A0 : Option Addr) (c0 : Nat) (l0 : List Int) (a1 : Int) (r : Int) (w : World) (hr0 : Kd.C (Kd.int .i64) w A0 l0.length l0) (hc0 : l0.length ≤ c0) (h : ef.f l0 a1 = some r) :
  Calls Tryz.prog 183 #[.slice A0 l0.length c0, .int .i64 a1] w fun e w' => e = .returned (.int .i64 r) ∧ Drawn0 w w' := by
 have HR0 := am_ hr0; have HC0 := am_ hc0; clear hr0 hc0; have H := h; clear h; unfold ef.f at H
 by_cases c3 : (wrap64 (a1 - (l0.length : Int))) < 0
 ·rw [if_pos c3] at H; have c3b0 := decide_eq_true c3; clear c3; obtain rfl := si_ H; go_enter Tryz.func183, Tryz.ntmps183
  go_wp2; go_ret
  exact ⟨u4_, u3_⟩
 ·rw [if_neg c3] at H; have c3b0 := decide_eq_false c3; clear c3; obtain rfl := si_ H; go_enter Tryz.func183, Tryz.ntmps183
  go_wp2; go_ret
  exact ⟨u4_, u3_⟩
def dJ.f (a0_0 : Int) (l0_1 : List Int) (a1 : Int) : Option (Int) := (ef.f l0_1 a1).bind fun t114 => (if t114 < 0 then (some (-1)) else (some t114))
theorem dJ.calls (a0_0 : Int) (A0_1 : Option Addr) (c0_1 : Nat) (l0_1 : List Int) (a1 : Int) (r : Int) (w : World) (hr0_1 : Kd.C (Kd.int .i64) w A0_1 l0_1.length l0_1) (hc0_1 : l0_1.length ≤ c0_1) (h : dJ.f a0_0 l0_1 a1 = some r) :
  Calls Tryz.prog 163 #[.agg #[.int .i64 a0_0, .slice A0_1 l0_1.length c0_1], .int .i64 a1] w fun e w' => e = .returned (.int .i64 r) ∧ Below w.heap.size w w' := by
 have hu182 := Tryz.underlying182; have HR0_1 := am_ hr0_1; have HC0_1 := am_ hc0_1; clear hr0_1 hc0_1; have HB := am_ (Below.refl w.heap.size w); have H := h; clear h; unfold dJ.f at H
 obtain ⟨t114, A3, H⟩ := bi_ H; by_cases c4 : t114 < 0
 ·rw [if_pos c4] at H; have c4b0 := decide_eq_true c4; clear c4; obtain rfl := si_ H; go_enter Tryz.func163, Tryz.ntmps163
  go_wp2_with (first | ((with_reducible refine gt_ 2 ?_); refine bx_ 2 #[.int .i64 a0_0, .slice A0_1 l0_1.length c0_1] 182 ?_; intro gb113 hg w5 hbox hb; have BK113 := am_ (hbox); have GE113 := gw_ HB hg; replace HB := bs_ HB hb; clear hb hbox hg; obtain ⟨hcz6_0, hcz6_1, hfz6_0, hfz6_1⟩ := bj BK113.out) | ((with_reducible refine gt_ 8 ?_); refine gD_ 8 Tryz.func183 (ef.calls _ _ l0_1 a1 t114 _ (kc_ HR0_1 HB) HC0_1.out A3.out) ?_; intro nd))
  go_ret
  exact ⟨u0_, bw_ HB⟩
 ·rw [if_neg c4] at H; have c4b0 := decide_eq_false c4; clear c4; obtain rfl := si_ H; go_enter Tryz.func163, Tryz.ntmps163
  go_wp2_with (first | ((with_reducible refine gt_ 2 ?_); refine bx_ 2 #[.int .i64 a0_0, .slice A0_1 l0_1.length c0_1] 182 ?_; intro gb113 hg w7 hbox hb; have BK113 := am_ (hbox); have GE113 := gw_ HB hg; replace HB := bs_ HB hb; clear hb hbox hg; obtain ⟨hcz8_0, hcz8_1, hfz8_0, hfz8_1⟩ := bj BK113.out) | ((with_reducible refine gt_ 8 ?_); refine gD_ 8 Tryz.func183 (ef.calls _ _ l0_1 a1 t114 _ (kc_ HR0_1 HB) HC0_1.out A3.out) ?_; intro nd))
  go_ret
  exact ⟨u0_, bw_ HB⟩
def bL.l0 : Nat → List (eC) → Int → Int → Option (Int)
 | 0, _, _, _ => none
 | k + 1, x0, x1, x5 => if x5 < (x0.length : Int) then (if 0 ≤ x5 then ((dJ.f ((dC x0 x5).f0) ((dC x0 x5).f1) x1).bind fun t116 => (if t116 < 0 then (some (-1)) else (bL.l0 k x0 t116 (wrap64 (x5 + 1))))) else (none)) else (some x1)
def bL.f (k : Nat) (l0 : List (eC)) (a1 : Int) : Option (Int) := if (wrap64 (a1 - (l0.length : Int))) < 0 then (some (-1)) else (bL.l0 k l0 (wrap64 (a1 - (l0.length : Int))) 0)
theorem bL.calls (k : Nat) (A0 : Option Addr) (c0 : Nat) (l0 : List (eC)) (a1 : Int) (r : Int) (w : World) (hr0 : Kd.C lq w A0 l0.length l0) (hc0 : l0.length ≤ c0) (h : bL.f k l0 a1 = some r) :
  Calls Tryz.prog 144 #[.slice A0 l0.length c0, .int .i64 a1] w fun e w' => e = .returned (.int .i64 r) ∧ Below w.heap.size w w' := by
 have hu182 := Tryz.underlying182; have HR0 := am_ hr0; have HC0 := am_ hc0; clear hr0 hc0; have HB := am_ (Below.refl w.heap.size w); have H := h; clear h; unfold bL.f at H
 by_cases c3 : (wrap64 (a1 - (l0.length : Int))) < 0
 ·rw [if_pos c3] at H; have c3b0 := decide_eq_true c3; clear c3; obtain rfl := si_ H; go_enter Tryz.func144, Tryz.ntmps144
  go_wp2; go_ret
  exact ⟨u0_, bw_ HB⟩
 ·rw [if_neg c3] at H; have c3b0 := decide_eq_false c3; clear c3; have H' := am_ H; clear H; go_enter Tryz.func144, Tryz.ntmps144
  go_wp2; go_loopg [1, 5] k (fun kq v1 v5 w' => ∃ (x1_1 : Int) (x5_1 : Int), v1 = .int .i64 x1_1 ∧ v5 = .int .i64 x5_1 ∧ aa (bL.l0 kq l0 x1_1 x5_1 = some r) ∧ aa (kq ≤ k) ∧ aa (Below w.heap.size w w'))
  case atStart => exact ⟨(wrap64 (a1 - (l0.length : Int))), (0), u1_, u1_, H', ⟨Nat.le_refl _⟩, ⟨bw_ HB⟩⟩
  case round =>
   clear H'; try clear c3
   try clear c3b0
   obtain ⟨x1_1, x5_1, rfl, rfl, HA, HK1, HB⟩ := hrel; cases gk with
   | zero => exact absurd HA.out (by simp [bL.l0])
   | succ k1 =>
    have H := HA.out; clear HA; simp only [bL.l0] at H; by_cases c4 : x5_1 < (l0.length : Int)
    ·rw [if_pos c4] at H; have c4b0 := decide_eq_true c4; clear c4; obtain ⟨c5b0, H⟩ := gd_ H; obtain ⟨t116, A6, H⟩ := bi_ H; have HC_ := am_ H; clear H; obtain ⟨ad115, A115_1, c115_1, e115, hx115_0, hx115_1, hl115_1, hi115_1⟩ := o6 HR0.out x5_1 od_ od_; cases e115; replace hx115_0 := cb_ HB hx115_0; replace hx115_1 := cb_ HB hx115_1; have HR115_1 := am_ hi115_1; have HC115_1 := am_ hl115_1; clear hi115_1 hl115_1; obtain ⟨p115, q115⟩ := pt_ x5_1 l0.length; have H := HC_.out; clear HC_; by_cases c7 : t116 < 0
     ·rw [if_pos c7] at H; have c7b0 := decide_eq_true c7; clear c7; obtain rfl := si_ H; (first | rw [c7b0] | (simp only [ap, au]; rw [c7b0]) | skip)
      go_wp2_with (first | ((with_reducible refine gt_ 23 ?_); refine gB_ 23 Tryz.func163 (dJ.calls ((dC l0 x5_1).f0) _ _ ((dC l0 x5_1).f1) x1_1 t116 _ (kc_ HR115_1 HB) HC115_1.out A6.out) ?_; intro w8 hb; replace HB := bs_ HB hb; (try clear hb)))
      go_ret
      exact ⟨u0_, bw_ HB⟩
     ·rw [if_neg c7] at H; have c7b0 := decide_eq_false c7; clear c7; have H' := am_ H; clear H; (first | rw [c7b0] | (simp only [ap, au]; rw [c7b0]) | skip)
      go_wp2_with (first | ((with_reducible refine gt_ 23 ?_); refine gB_ 23 Tryz.func163 (dJ.calls ((dC l0 x5_1).f0) _ _ ((dC l0 x5_1).f1) x1_1 t116 _ (kc_ HR115_1 HB) HC115_1.out A6.out) ?_; intro w9 hb; replace HB := bs_ HB hb; (try clear hb)))
      go_roundg k1
      case measure => have := HK1.out; omega
      case rel => exact ⟨(t116), (wrap64 (x5_1 + 1)), u1_, u1_, H', ⟨dm⟩, ⟨bw_ HB⟩⟩
    ·rw [if_neg c4] at H; have c4b0 := decide_eq_false c4; clear c4; obtain rfl := si_ H; go_wp2; go_ret
     exact ⟨u0_, bw_ HB⟩
def dD.f (k : Nat) (a0_0 : ByteArray) (a0_1 : ByteArray) (l0_2 : List (eC)) (a1 : Int) : Option (Int) := if (wrap64 (a1 - (a0_0.size : Int))) < 0 then (some (-1)) else (if (wrap64 ((wrap64 (a1 - (a0_0.size : Int))) - (a0_1.size : Int))) < 0 then (some (-1)) else ((bL.f k l0_2 (wrap64 ((wrap64 (a1 - (a0_0.size : Int))) - (a0_1.size : Int)))).bind fun t118 => (if t118 < 0 then (some (-1)) else (some t118))))
theorem dD.calls (k : Nat) (a0_0 : ByteArray) (a0_1 : ByteArray) (A0_2 : Option Addr) (c0_2 : Nat) (l0_2 : List (eC)) (a1 : Int) (r : Int) (w : World) (hr0_2 : Kd.C lq w A0_2 l0_2.length l0_2) (hc0_2 : l0_2.length ≤ c0_2) (h : dD.f k a0_0 a0_1 l0_2 a1 = some r) :
  Calls Tryz.prog 104 #[.agg #[.string a0_0, .string a0_1, .slice A0_2 l0_2.length c0_2], .int .i64 a1] w fun e w' => e = .returned (.int .i64 r) ∧ Below w.heap.size w w' := by
 have hu137 := Tryz.underlying137; have HR0_2 := am_ hr0_2; have HC0_2 := am_ hc0_2; clear hr0_2 hc0_2; have HB := am_ (Below.refl w.heap.size w); have H := h; clear h; unfold dD.f at H
 by_cases c3 : (wrap64 (a1 - (a0_0.size : Int))) < 0
 ·rw [if_pos c3] at H; have c3b0 := decide_eq_true c3; clear c3; obtain rfl := si_ H; go_enter Tryz.func104, Tryz.ntmps104
  go_wp2_with (first | ((with_reducible refine gt_ 2 ?_); refine bx_ 2 #[.string a0_0, .string a0_1, .slice A0_2 l0_2.length c0_2] 137 ?_; intro gb117 hg w4 hbox hb; have BK117 := am_ (hbox); have GE117 := gw_ HB hg; replace HB := bs_ HB hb; clear hb hbox hg; obtain ⟨hcz5_0, hcz5_1, hcz5_2, hfz5_0, hfz5_1, hfz5_2⟩ := bR BK117.out))
  go_ret
  exact ⟨u0_, bw_ HB⟩
 ·rw [if_neg c3] at H; have c3b0 := decide_eq_false c3; clear c3; by_cases c6 : (wrap64 ((wrap64 (a1 - (a0_0.size : Int))) - (a0_1.size : Int))) < 0
  ·rw [if_pos c6] at H; have c6b0 := decide_eq_true c6; clear c6; obtain rfl := si_ H; go_enter Tryz.func104, Tryz.ntmps104
   go_wp2_with (first | ((with_reducible refine gt_ 2 ?_); refine bx_ 2 #[.string a0_0, .string a0_1, .slice A0_2 l0_2.length c0_2] 137 ?_; intro gb117 hg w7 hbox hb; have BK117 := am_ (hbox); have GE117 := gw_ HB hg; replace HB := bs_ HB hb; clear hb hbox hg; obtain ⟨hcz8_0, hcz8_1, hcz8_2, hfz8_0, hfz8_1, hfz8_2⟩ := bR BK117.out))
   go_ret
   exact ⟨u0_, bw_ HB⟩
  ·rw [if_neg c6] at H; have c6b0 := decide_eq_false c6; clear c6; obtain ⟨t118, A9, H⟩ := bi_ H; by_cases c10 : t118 < 0
   ·rw [if_pos c10] at H; have c10b0 := decide_eq_true c10; clear c10; obtain rfl := si_ H; go_enter Tryz.func104, Tryz.ntmps104
    go_wp2_with (first | ((with_reducible refine gt_ 2 ?_); refine bx_ 2 #[.string a0_0, .string a0_1, .slice A0_2 l0_2.length c0_2] 137 ?_; intro gb117 hg w11 hbox hb; have BK117 := am_ (hbox); have GE117 := gw_ HB hg; replace HB := bs_ HB hb; clear hb hbox hg; obtain ⟨hcz12_0, hcz12_1, hcz12_2, hfz12_0, hfz12_1, hfz12_2⟩ := bR BK117.out) | ((with_reducible refine gt_ 22 ?_); refine gB_ 22 Tryz.func144 (bL.calls k _ _ l0_2 (wrap64 ((wrap64 (a1 - (a0_0.size : Int))) - (a0_1.size : Int))) t118 _ (kc_ HR0_2 HB) HC0_2.out A9.out) ?_; intro w13 hb; replace HB := bs_ HB hb; (try clear hb)))
    go_ret
    exact ⟨u0_, bw_ HB⟩
   ·rw [if_neg c10] at H; have c10b0 := decide_eq_false c10; clear c10; obtain rfl := si_ H; go_enter Tryz.func104, Tryz.ntmps104
    go_wp2_with (first | ((with_reducible refine gt_ 2 ?_); refine bx_ 2 #[.string a0_0, .string a0_1, .slice A0_2 l0_2.length c0_2] 137 ?_; intro gb117 hg w14 hbox hb; have BK117 := am_ (hbox); have GE117 := gw_ HB hg; replace HB := bs_ HB hb; clear hb hbox hg; obtain ⟨hcz15_0, hcz15_1, hcz15_2, hfz15_0, hfz15_1, hfz15_2⟩ := bR BK117.out) | ((with_reducible refine gt_ 22 ?_); refine gB_ 22 Tryz.func144 (bL.calls k _ _ l0_2 (wrap64 ((wrap64 (a1 - (a0_0.size : Int))) - (a0_1.size : Int))) t118 _ (kc_ HR0_2 HB) HC0_2.out A9.out) ?_; intro w16 hb; replace HB := bs_ HB hb; (try clear hb)))
    go_ret
    exact ⟨u0_, bw_ HB⟩
def bz.l0 : Nat → List (dQ) → Int → Int → Option (Int)
 | 0, _, _, _ => none
 | k + 1, x0, x1, x5 => if x5 < (x0.length : Int) then (if 0 ≤ x5 then ((dD.f k ((cY x0 x5).f0) ((cY x0 x5).f1) ((cY x0 x5).f2) x1).bind fun t120 => (if t120 < 0 then (some (-1)) else (bz.l0 k x0 t120 (wrap64 (x5 + 1))))) else (none)) else (some x1)
def bz.f (k : Nat) (l0 : List (dQ)) (a1 : Int) : Option (Int) := if (wrap64 (a1 - (l0.length : Int))) < 0 then (some (-1)) else (bz.l0 k l0 (wrap64 (a1 - (l0.length : Int))) 0)
theorem bz.calls (k : Nat) (A0 : Option Addr) (c0 : Nat) (l0 : List (dQ)) (a1 : Int) (r : Int) (w : World) (hr0 : Kd.C ny w A0 l0.length l0) (hc0 : l0.length ≤ c0) (h : bz.f k l0 a1 = some r) :
  Calls Tryz.prog 59 #[.slice A0 l0.length c0, .int .i64 a1] w fun e w' => e = .returned (.int .i64 r) ∧ Below w.heap.size w w' := by
 have hu137 := Tryz.underlying137; have HR0 := am_ hr0; have HC0 := am_ hc0; clear hr0 hc0; have HB := am_ (Below.refl w.heap.size w); have H := h; clear h; unfold bz.f at H
 by_cases c3 : (wrap64 (a1 - (l0.length : Int))) < 0
 ·rw [if_pos c3] at H; have c3b0 := decide_eq_true c3; clear c3; obtain rfl := si_ H; go_enter Tryz.func59, Tryz.ntmps59
  go_wp2; go_ret
  exact ⟨u0_, bw_ HB⟩
 ·rw [if_neg c3] at H; have c3b0 := decide_eq_false c3; clear c3; have H' := am_ H; clear H; go_enter Tryz.func59, Tryz.ntmps59
  go_wp2; go_loopg [1, 5] k (fun kq v1 v5 w' => ∃ (x1_1 : Int) (x5_1 : Int), v1 = .int .i64 x1_1 ∧ v5 = .int .i64 x5_1 ∧ aa (bz.l0 kq l0 x1_1 x5_1 = some r) ∧ aa (kq ≤ k) ∧ aa (Below w.heap.size w w'))
  case atStart => exact ⟨(wrap64 (a1 - (l0.length : Int))), (0), u1_, u1_, H', ⟨Nat.le_refl _⟩, ⟨bw_ HB⟩⟩
  case round =>
   clear H'; try clear c3
   try clear c3b0
   obtain ⟨x1_1, x5_1, rfl, rfl, HA, HK1, HB⟩ := hrel; cases gk with
   | zero => exact absurd HA.out (by simp [bz.l0])
   | succ k1 =>
    have H := HA.out; clear HA; simp only [bz.l0] at H; by_cases c4 : x5_1 < (l0.length : Int)
    ·rw [if_pos c4] at H; have c4b0 := decide_eq_true c4; clear c4; obtain ⟨c5b0, H⟩ := gd_ H; obtain ⟨t120, A6, H⟩ := bi_ H; have HC_ := am_ H; clear H; obtain ⟨ad119, A119_2, c119_2, e119, hx119_0, hx119_1, hx119_2, hl119_2, hi119_2⟩ := pq HR0.out x5_1 od_ od_; cases e119; replace hx119_0 := cb_ HB hx119_0; replace hx119_1 := cb_ HB hx119_1; replace hx119_2 := cb_ HB hx119_2; have HR119_2 := am_ hi119_2; have HC119_2 := am_ hl119_2; clear hi119_2 hl119_2; obtain ⟨p119, q119⟩ := pt_ x5_1 l0.length; have H := HC_.out; clear HC_; by_cases c7 : t120 < 0
     ·rw [if_pos c7] at H; have c7b0 := decide_eq_true c7; clear c7; obtain rfl := si_ H; (first | rw [c7b0] | (simp only [ap, au]; rw [c7b0]) | skip)
      go_wp2_with (first | ((with_reducible refine gt_ 23 ?_); refine gB_ 23 Tryz.func104 (dD.calls k1 ((cY l0 x5_1).f0) ((cY l0 x5_1).f1) _ _ ((cY l0 x5_1).f2) x1_1 t120 _ (kc_ HR119_2 HB) HC119_2.out A6.out) ?_; intro w8 hb; replace HB := bs_ HB hb; (try clear hb)))
      go_ret
      exact ⟨u0_, bw_ HB⟩
     ·rw [if_neg c7] at H; have c7b0 := decide_eq_false c7; clear c7; have H' := am_ H; clear H; (first | rw [c7b0] | (simp only [ap, au]; rw [c7b0]) | skip)
      go_wp2_with (first | ((with_reducible refine gt_ 23 ?_); refine gB_ 23 Tryz.func104 (dD.calls k1 ((cY l0 x5_1).f0) ((cY l0 x5_1).f1) _ _ ((cY l0 x5_1).f2) x1_1 t120 _ (kc_ HR119_2 HB) HC119_2.out A6.out) ?_; intro w9 hb; replace HB := bs_ HB hb; (try clear hb)))
      go_roundg k1
      case measure => have := HK1.out; omega
      case rel => exact ⟨(t120), (wrap64 (x5_1 + 1)), u1_, u1_, H', ⟨dm⟩, ⟨bw_ HB⟩⟩
    ·rw [if_neg c4] at H; have c4b0 := decide_eq_false c4; clear c4; obtain rfl := si_ H; go_wp2; go_ret
     exact ⟨u0_, bw_ HB⟩
def dA.f (k : Nat) (l0_0 : List (dU)) (l0_1 : List (dS)) (l0_2 : List (dQ)) (a0_3 : Int) (a1 : Int) : Option (Int) := (bn.f k l0_0 a1).bind fun t122 => (if t122 < 0 then (some (-1)) else ((bS.f k l0_1 t122).bind fun t123 => (if t123 < 0 then (some (-1)) else ((bz.f k l0_2 t123).bind fun t124 => (if t124 < 0 then (some (-1)) else (some t124))))))
theorem dA.calls (k : Nat) (A0_0 : Option Addr) (c0_0 : Nat) (l0_0 : List (dU)) (A0_1 : Option Addr) (c0_1 : Nat) (l0_1 : List (dS)) (A0_2 : Option Addr) (c0_2 : Nat) (l0_2 : List (dQ)) (a0_3 : Int) (a1 : Int) (r : Int) (w : World) (hr0_0 : Kd.C nH w A0_0 l0_0.length l0_0) (hc0_0 : l0_0.length ≤ c0_0) (hr0_1 : Kd.C nc w A0_1 l0_1.length l0_1) (hc0_1 : l0_1.length ≤ c0_1) (hr0_2 : Kd.C ny w A0_2 l0_2.length l0_2) (hc0_2 : l0_2.length ≤ c0_2) (h : dA.f k l0_0 l0_1 l0_2 a0_3 a1 = some r) :
  Calls Tryz.prog 23 #[.agg #[.slice A0_0 l0_0.length c0_0, .slice A0_1 l0_1.length c0_1, .slice A0_2 l0_2.length c0_2, .int .i64 a0_3], .int .i64 a1] w fun e w' => e = .returned (.int .i64 r) ∧ Below w.heap.size w w' := by
 have hu56 := Tryz.underlying56; have HR0_0 := am_ hr0_0; have HC0_0 := am_ hc0_0; clear hr0_0 hc0_0; have HR0_1 := am_ hr0_1; have HC0_1 := am_ hc0_1; clear hr0_1 hc0_1; have HR0_2 := am_ hr0_2; have HC0_2 := am_ hc0_2; clear hr0_2 hc0_2; have HB := am_ (Below.refl w.heap.size w); have H := h; clear h; unfold dA.f at H
 obtain ⟨t122, A3, H⟩ := bi_ H; by_cases c4 : t122 < 0
 ·rw [if_pos c4] at H; have c4b0 := decide_eq_true c4; clear c4; obtain rfl := si_ H; go_enter Tryz.func23, Tryz.ntmps23
  go_wp2_with (first | ((with_reducible refine gt_ 2 ?_); refine bx_ 2 #[.slice A0_0 l0_0.length c0_0, .slice A0_1 l0_1.length c0_1, .slice A0_2 l0_2.length c0_2, .int .i64 a0_3] 56 ?_; intro gb121 hg w5 hbox hb; have BK121 := am_ (hbox); have GE121 := gw_ HB hg; replace HB := bs_ HB hb; clear hb hbox hg; obtain ⟨hcz6_0, hcz6_1, hcz6_2, hcz6_3, hfz6_0, hfz6_1, hfz6_2, hfz6_3⟩ := cu BK121.out) | ((with_reducible refine gt_ 8 ?_); refine gB_ 8 Tryz.func57 (bn.calls k _ _ l0_0 a1 t122 _ (kc_ HR0_0 HB) HC0_0.out A3.out) ?_; intro w7 hb; replace HB := bs_ HB hb; (try clear hb)))
  go_ret
  exact ⟨u0_, bw_ HB⟩
 ·rw [if_neg c4] at H; have c4b0 := decide_eq_false c4; clear c4; obtain ⟨t123, A8, H⟩ := bi_ H; by_cases c9 : t123 < 0
  ·rw [if_pos c9] at H; have c9b0 := decide_eq_true c9; clear c9; obtain rfl := si_ H; go_enter Tryz.func23, Tryz.ntmps23
   go_wp2_with (first | ((with_reducible refine gt_ 2 ?_); refine bx_ 2 #[.slice A0_0 l0_0.length c0_0, .slice A0_1 l0_1.length c0_1, .slice A0_2 l0_2.length c0_2, .int .i64 a0_3] 56 ?_; intro gb121 hg w10 hbox hb; have BK121 := am_ (hbox); have GE121 := gw_ HB hg; replace HB := bs_ HB hb; clear hb hbox hg; obtain ⟨hcz11_0, hcz11_1, hcz11_2, hcz11_3, hfz11_0, hfz11_1, hfz11_2, hfz11_3⟩ := cu BK121.out) | ((with_reducible refine gt_ 8 ?_); refine gB_ 8 Tryz.func57 (bn.calls k _ _ l0_0 a1 t122 _ (kc_ HR0_0 HB) HC0_0.out A3.out) ?_; intro w12 hb; replace BK121 := bb_ BK121 hb; replace HB := bs_ HB hb; (try clear hb); obtain ⟨hcz13_0, hcz13_1, hcz13_2, hcz13_3, hfz13_0, hfz13_1, hfz13_2, hfz13_3⟩ := cu BK121.out) | ((with_reducible refine gt_ 14 ?_); refine gB_ 14 Tryz.func58 (bS.calls k _ _ l0_1 t122 t123 _ (kc_ HR0_1 HB) HC0_1.out A8.out) ?_; intro w14 hb; replace HB := bs_ HB hb; (try clear hb)))
   go_ret
   exact ⟨u0_, bw_ HB⟩
  ·rw [if_neg c9] at H; have c9b0 := decide_eq_false c9; clear c9; obtain ⟨t124, A15, H⟩ := bi_ H; by_cases c16 : t124 < 0
   ·rw [if_pos c16] at H; have c16b0 := decide_eq_true c16; clear c16; obtain rfl := si_ H; go_enter Tryz.func23, Tryz.ntmps23
    go_wp2_with (first | ((with_reducible refine gt_ 2 ?_); refine bx_ 2 #[.slice A0_0 l0_0.length c0_0, .slice A0_1 l0_1.length c0_1, .slice A0_2 l0_2.length c0_2, .int .i64 a0_3] 56 ?_; intro gb121 hg w17 hbox hb; have BK121 := am_ (hbox); have GE121 := gw_ HB hg; replace HB := bs_ HB hb; clear hb hbox hg; obtain ⟨hcz18_0, hcz18_1, hcz18_2, hcz18_3, hfz18_0, hfz18_1, hfz18_2, hfz18_3⟩ := cu BK121.out) | ((with_reducible refine gt_ 8 ?_); refine gB_ 8 Tryz.func57 (bn.calls k _ _ l0_0 a1 t122 _ (kc_ HR0_0 HB) HC0_0.out A3.out) ?_; intro w19 hb; replace BK121 := bb_ BK121 hb; replace HB := bs_ HB hb; (try clear hb); obtain ⟨hcz20_0, hcz20_1, hcz20_2, hcz20_3, hfz20_0, hfz20_1, hfz20_2, hfz20_3⟩ := cu BK121.out) | ((with_reducible refine gt_ 14 ?_); refine gB_ 14 Tryz.func58 (bS.calls k _ _ l0_1 t122 t123 _ (kc_ HR0_1 HB) HC0_1.out A8.out) ?_; intro w21 hb; replace BK121 := bb_ BK121 hb; replace HB := bs_ HB hb; (try clear hb); obtain ⟨hcz22_0, hcz22_1, hcz22_2, hcz22_3, hfz22_0, hfz22_1, hfz22_2, hfz22_3⟩ := cu BK121.out) | ((with_reducible refine gt_ 20 ?_); refine gB_ 20 Tryz.func59 (bz.calls k _ _ l0_2 t123 t124 _ (kc_ HR0_2 HB) HC0_2.out A15.out) ?_; intro w23 hb; replace HB := bs_ HB hb; (try clear hb)))
    go_ret
    exact ⟨u0_, bw_ HB⟩
   ·rw [if_neg c16] at H; have c16b0 := decide_eq_false c16; clear c16; obtain rfl := si_ H; go_enter Tryz.func23, Tryz.ntmps23
    go_wp2_with (first | ((with_reducible refine gt_ 2 ?_); refine bx_ 2 #[.slice A0_0 l0_0.length c0_0, .slice A0_1 l0_1.length c0_1, .slice A0_2 l0_2.length c0_2, .int .i64 a0_3] 56 ?_; intro gb121 hg w24 hbox hb; have BK121 := am_ (hbox); have GE121 := gw_ HB hg; replace HB := bs_ HB hb; clear hb hbox hg; obtain ⟨hcz25_0, hcz25_1, hcz25_2, hcz25_3, hfz25_0, hfz25_1, hfz25_2, hfz25_3⟩ := cu BK121.out) | ((with_reducible refine gt_ 8 ?_); refine gB_ 8 Tryz.func57 (bn.calls k _ _ l0_0 a1 t122 _ (kc_ HR0_0 HB) HC0_0.out A3.out) ?_; intro w26 hb; replace BK121 := bb_ BK121 hb; replace HB := bs_ HB hb; (try clear hb); obtain ⟨hcz27_0, hcz27_1, hcz27_2, hcz27_3, hfz27_0, hfz27_1, hfz27_2, hfz27_3⟩ := cu BK121.out) | ((with_reducible refine gt_ 14 ?_); refine gB_ 14 Tryz.func58 (bS.calls k _ _ l0_1 t122 t123 _ (kc_ HR0_1 HB) HC0_1.out A8.out) ?_; intro w28 hb; replace BK121 := bb_ BK121 hb; replace HB := bs_ HB hb; (try clear hb); obtain ⟨hcz29_0, hcz29_1, hcz29_2, hcz29_3, hfz29_0, hfz29_1, hfz29_2, hfz29_3⟩ := cu BK121.out) | ((with_reducible refine gt_ 20 ?_); refine gB_ 20 Tryz.func59 (bz.calls k _ _ l0_2 t123 t124 _ (kc_ HR0_2 HB) HC0_2.out A15.out) ?_; intro w30 hb; replace HB := bs_ HB hb; (try clear hb)))
    go_ret
    exact ⟨u0_, bw_ HB⟩
def en.f (a0_0 : ByteArray) (a0_1 : Int) (a0_2 : Int) : Option (ByteArray × Int × Int) := some (a0_0, a0_1, a0_2)
theorem en.calls (a0_0 : ByteArray) (a0_1 : Int) (a0_2 : Int) (r1 : ByteArray) (r2 : Int) (r3 : Int) (w : World) (h : en.f a0_0 a0_1 a0_2 = some (r1, r2, r3)) :
  Calls Tryz.prog 105 #[.agg #[.string a0_0, .int .i64 a0_1, .int .i64 a0_2]] w fun e w' => e = .returned (.agg #[.string r1, .int .i64 r2, .int .i64 r3]) ∧ Below w.heap.size w w' := by
 have hu127 := Tryz.underlying127; have hu92 := Tryz.underlying92; have HB := am_ (Below.refl w.heap.size w); have H := h; clear h; unfold en.f at H
 simp only [Option.some.injEq, Prod.mk.injEq] at H; obtain ⟨rfl, rfl, rfl⟩ := H; go_enter Tryz.func105, Tryz.ntmps105
 go_wp2_with (first | ((with_reducible refine gt_ 1 ?_); refine bx_ 1 #[.string a0_0, .int .i64 a0_1, .int .i64 a0_2] 127 ?_; intro gb125 hg w2 hbox hb; have BK125 := am_ (hbox); have GE125 := gw_ HB hg; replace HB := bs_ HB hb; clear hb hbox hg) | ((with_reducible refine gt_ 2 ?_); refine bx_ 2 #[.string (⟨#[]⟩ : ByteArray), .int .i64 0, .int .i64 0] 92 ?_; intro gb126 hg w3 hbox hb; have BK126 := am_ (hbox); have GE126 := gw_ HB hg; replace HB := bs_ HB hb; have NB125_126 := nl_ BK125 hg; have NB126_125 := ng_ BK125 hg; replace BK125 := bb_ BK125 hb; clear hb hbox hg) | ((with_reducible refine gt_ 3 ?_); refine bx_ 3 #[.string (⟨#[]⟩ : ByteArray), .int .i64 0, .int .i64 0] 92 ?_; intro gb127 hg w4 hbox hb; have BK127 := am_ (hbox); have GE127 := gw_ HB hg; replace HB := bs_ HB hb; have NB125_127 := nl_ BK125 hg; have NB127_125 := ng_ BK125 hg; replace BK125 := bb_ BK125 hb; have NB126_127 := nl_ BK126 hg; have NB127_126 := ng_ BK126 hg; replace BK126 := bb_ BK126 hb; clear hb hbox hg; have hnb5 := NB125_126.out; have hnc5 := NB126_125.out; have hnb6 := NB125_127.out; have hnc6 := NB127_125.out; obtain ⟨hcz7_0, hcz7_1, hcz7_2, hfz7_0, hfz7_1, hfz7_2⟩ := bR BK125.out; have hnb8 := NB127_126.out; have hnc8 := NB126_127.out; obtain ⟨hcz9_0, hcz9_1, hcz9_2, hfz9_0, hfz9_1, hfz9_2⟩ := bR BK127.out; obtain ⟨hcz10_0, hcz10_1, hcz10_2, hfz10_0, hfz10_1, hfz10_2⟩ := bR BK126.out))
 refine bodyPost_ret (results_cell_row rfl _ _ gb126 92 #[.string a0_0, .int .i64 a0_1, .int .i64 a0_2] (0, 0) _ rfl (pb_ BK126) Tryz.underlying92 rfl bY) rfl ?_; exact ⟨u0_, bw_ HB⟩
def bE.l0 : Nat → List (dU) → List (S92) → Int → Option ((List (S92)))
 | 0, _, _, _ => none
 | k + 1, x0, x3, x4 => if x4 < (x0.length : Int) then (if 0 ≤ x4 then ((en.f ((dn x0 x4).f0) ((dn x0 x4).f1) ((dn x0 x4).f2)).bind fun bt132 => (if x4 < (x3.length : Int) then (bE.l0 k x0 (x3.set (x4 : Int).toNat (⟨bt132.1, bt132.2.1, bt132.2.2⟩ : S92)) (wrap64 (x4 + 1))) else (none))) else (none)) else (some x3)
def bE.f (k : Nat) (l0 : List (dU)) : Option ((List (S92))) := if 0 ≤ (l0.length : Int) then (if ((l0.length : Int) : Int).toNat ≤ 8796093022208 then (bE.l0 k l0 (List.replicate ((l0.length : Int) : Int).toNat z92) 0) else (none)) else (none)
theorem bE.calls (k : Nat) (A0 : Option Addr) (c0 : Nat) (l0 : List (dU)) (r : List (S92)) (w : World) (hr0 : Kd.C nH w A0 l0.length l0) (hc0 : l0.length ≤ c0) (h : bE.f k l0 = some r) :
  Calls Tryz.prog 60 #[.slice A0 l0.length c0] w fun e w' => ∃ v0_ : Value, e = .returned (v0_) ∧ Kd.R k92 92 w' w.heap.size (fun _ => True) v0_ r ∧ Below w.heap.size w w' := by
 have hu127 := Tryz.underlying127; have hu92 := Tryz.underlying92; have HR0 := am_ hr0; have HC0 := am_ hc0; clear hr0 hc0; have HB := am_ (Below.refl w.heap.size w); have H := h; clear h; unfold bE.f at H
 obtain ⟨c2b0, c2b1, H⟩ := ge_ H; obtain ⟨c3b0, c3b1, H⟩ := ge_ H; generalize hy128 : ((List.replicate ((l0.length : Int) : Int).toNat z92) : List (S92)) = y128 at H; have Ny128 := am_ hy128.symm; clear hy128; have H' := am_ H; clear H; go_enter Tryz.func60, Tryz.ntmps60
 go_wp2_with (first | ((with_reducible refine aE (N := 7) rfl ?_); refine Kd.R_make k92 _ 92 rfl (N := 7) rfl 23 _ _ rfl (l0.length : Int) rfl rfl Tryz.underlying23 (.agg #[(.string ⟨#[]⟩), (.int .i64 0), (.int .i64 0)]) 32 info92 rfl aC u7_ z92 (ok := fun _ => True) (okp := fun _ => True) (o0 _ _ _ z92 ) (fun _ hk => hk) trivial (od_) (Nat.le_trans (Nat.mul_le_mul_right _ (od_ : (l0.length : Int).toNat ≤ 8796093022208)) u7_) (Below.refl _ _) (Nat.le_refl _) ?_; intro v129 w4 ho5 hb hg_ hnew_; clear hg_ hnew_; (first | rw [← Ny128.out] at ho5 | (simp only [Int.reduceToNat] at ho5; rw [← Ny128.out] at ho5)); have HO130 := am_ (Kd.R_lower ho5 (al (bw_ HB))); replace HB := bs_ HB hb; clear hb ho5))
 go_loopg [4] k (fun kq v4 w' => ∃ (x3_1 : List (S92)) (x4_1 : Int), v4 = .int .i64 x4_1 ∧ aa (bE.l0 kq l0 x3_1 x4_1 = some r) ∧ aa (kq ≤ k) ∧ aa (Kd.R k92 92 w' w.heap.size (fun _ => True) v129 x3_1) ∧ aa (Below w.heap.size w w'))
 case atStart => exact ⟨(y128), (0), u1_, H', ⟨Nat.le_refl _⟩, ⟨aR_ HO130.out⟩, ⟨bw_ HB⟩⟩
 case round =>
  clear H'; try clear c2b0
  try clear c2b1
  try clear c3b0
  try clear c3b1
  obtain ⟨x3_1, x4_1, rfl, HA, HK1, HO_3, HB⟩ := hrel; cases gk with
  | zero => exact absurd HA.out (by simp [bE.l0])
  | succ k1 =>
   have H := HA.out; clear HA; simp only [bE.l0] at H; by_cases c6 : x4_1 < (l0.length : Int)
   ·rw [if_pos c6] at H; have c6b0 := decide_eq_true c6; clear c6; obtain ⟨c7b0, H⟩ := gd_ H; obtain ⟨⟨t132, t133, t134⟩, A8, H⟩ := bi_ H; dsimp only at H; obtain ⟨c9b0, H⟩ := gd_ H; generalize hy135 : ((x3_1.set (x4_1 : Int).toNat (⟨t132, t133, t134⟩ : S92)) : List (S92)) = y135 at H; have Ny135 := am_ hy135.symm; clear hy135; have H' := am_ H; clear H; obtain ⟨ad131, e131, hx131_0, hx131_1, hx131_2⟩ := o7 HR0.out x4_1 od_ od_; cases e131; replace hx131_0 := cb_ HB hx131_0; replace hx131_1 := cb_ HB hx131_1; replace hx131_2 := cb_ HB hx131_2; obtain ⟨p131, q131⟩ := pt_ x4_1 l0.length; go_wp2_with (first | ((with_reducible refine gt_ 20 ?_); refine gB_ 20 Tryz.func105 (en.calls ((dn l0 x4_1).f0) ((dn l0 x4_1).f1) ((dn l0 x4_1).f2) t132 t133 t134 _ A8.out) ?_; intro w11 hb; replace HO_3 := am_ (Kd.R_below (aR_ HO_3.out) hb); replace HB := bs_ HB hb; (try clear hb); have p10 : 0 ≤ (x4_1 : Int) := od_; have q10 : (x4_1 : Int) < ((x3_1.length : Int) : Int) := od_; obtain ⟨go10, co10, eo10, gb10, gl10, cl10, HG10⟩ := Kd.R_form HO_3.out u7_; (first | cases eo10 | (injection eo10 with ea_ en_ ec_; (first | subst ea_ | (injection ea_ with ea_; subst ea_)); subst ec_; clear en_)); have GB10 := am_ gb10; have GG10 := am_ HG10; clear gb10 gl10 HG10; obtain ⟨ce10, hcl10, hM10, hcc10, hfr10⟩ := Kd.R_elem HO_3.out z92 (x4_1 : Int) p10 q10; obtain rfl := iW hM10; have hx10_0 : w11.cell? ⟨go10, (x4_1 : Int).toNat * 3, none⟩ = some (.string ((ao x3_1 x4_1).f0)) := hcc10 0 _ rfl; have hx10_1 : w11.cell? ⟨go10, (x4_1 : Int).toNat * 3 + 1, none⟩ = some (.int .i64 ((ao x3_1 x4_1).f1)) := hcc10 1 _ rfl; have hx10_2 : w11.cell? ⟨go10, (x4_1 : Int).toNat * 3 + 2, none⟩ = some (.int .i64 ((ao x3_1 x4_1).f2)) := hcc10 2 _ rfl; have hf10_0 : w11.frozen? ⟨go10, (x4_1 : Int).toNat * 3, none⟩ = false := hfr10 0; have hf10_1 : w11.frozen? ⟨go10, (x4_1 : Int).toNat * 3 + 1, none⟩ = false := hfr10 1; have hf10_2 : w11.frozen? ⟨go10, (x4_1 : Int).toNat * 3 + 2, none⟩ = false := hfr10 2; clear hcl10 hcc10 hfr10 hM10; obtain ⟨p10, q10⟩ := tt_ p10 q10; have HX12 := am_ (show Kd.R k92 92 w11 w.heap.size (fun _ => True) (.slice (some ⟨go10, 0, none⟩) x3_1.length co10) x3_1 from (aR_ HO_3.out)); obtain ⟨ce12, hcl12, hM12, hcc12, hfr12⟩ := Kd.R_elem HX12.out z92 (x4_1 : Int) (od_) (by have h_ : (x4_1 : Int) < ((x3_1.length : Int) : Int) := od_; first | exact h_ | (have e_ := (Kd.R_reads' HO_3.out).1; omega) | simpa using h_); obtain rfl := iW hM12; have HP12 := Kd.R_seg HX12.out (x4_1 : Int) (od_) (by have h_ : (x4_1 : Int) < ((x3_1.length : Int) : Int) := od_; first | exact h_ | (have e_ := (Kd.R_reads' HO_3.out).1; omega) | simpa using h_) (seg := [.string t132, .int .i64 t133, .int .i64 t134]) (j := 0) hcl12 hcc12 (show 3 ≤ 3 from aC) (x' := (⟨t132, t133, t134⟩ : S92)) (o0 _ _ _ (⟨t132, t133, t134⟩ : S92) ) (fun _ hk => hk); have hx12_0 := hcc12 0 _ rfl; (try simp only [show (k92).sz = 3 from rfl, Nat.mul_one, Nat.add_zero] at hx12_0); have hf12_0 := hfr12 0; (try simp only [show (k92).sz = 3 from rfl, Nat.mul_one, Nat.add_zero] at hf12_0); have hx12_1 := hcc12 1 _ rfl; (try simp only [show (k92).sz = 3 from rfl, Nat.mul_one, Nat.add_zero] at hx12_1); have hf12_1 := hfr12 1; (try simp only [show (k92).sz = 3 from rfl, Nat.mul_one, Nat.add_zero] at hf12_1); have hx12_2 := hcc12 2 _ rfl; (try simp only [show (k92).sz = 3 from rfl, Nat.mul_one, Nat.add_zero] at hx12_2); have hf12_2 := hfr12 2; (try simp only [show (k92).sz = 3 from rfl, Nat.mul_one, Nat.add_zero] at hf12_2); clear hcl12 hcc12 hfr12 hM12) | ((with_reducible refine ee (t := 92) (p := 21) rfl ?_); refine dI (t := 92) (p := 21) (v := ?vo_w13) (w1 := (((w11.setCell ⟨go10, (x4_1 : Int).toNat * 3, none⟩ (.string t132)).setCell ⟨go10, (x4_1 : Int).toNat * 3 + 1, none⟩ (.int .i64 t133)).setCell ⟨go10, (x4_1 : Int).toNat * 3 + 2, none⟩ (.int .i64 t134))) ?hg ?ho ?hn ?hr ?_; (case ho => rfl); (case hg => rfl); (case hn => rfl); (case hr => exact u6_); intro w13 hw; have hg : w11.grownBy w13 (some go10) := (by rw [hw]; exact HP12.2); have hp_ : Kd.R k92 92 w13 w.heap.size (fun _ => True) (.slice (some ⟨go10, 0, none⟩) x3_1.length co10) y135 := (by rw [hw, Ny135.out]; exact HP12.1); clear HP12; replace HO_3 := am_ (hp_); replace HB := am_ ((by rw [hw]; exact bf (bf (bf (HB.out) GB10.out) GB10.out) GB10.out : Below w.heap.size w w13)); clear hg hw hp_))
    go_roundg k1
    case measure => have := HK1.out; omega
    case rel => exact ⟨(y135), (wrap64 (x4_1 + 1)), u1_, H', ⟨dm⟩, ⟨aR_ HO_3.out⟩, ⟨bw_ HB⟩⟩
   ·rw [if_neg c6] at H; have c6b0 := decide_eq_false c6; clear c6; obtain rfl := si_ H; go_wp2; go_ret
    exact ⟨_, u0_, aR_ HO_3.out, bw_ HB⟩
def eR.f (a0_0 : ByteArray) (a0_1 : ByteArray) : Option (ByteArray × ByteArray) := some (a0_0, a0_1)
theorem eR.calls (a0_0 : ByteArray) (a0_1 : ByteArray) (r1 : ByteArray) (r2 : ByteArray) (w : World) (h : eR.f a0_0 a0_1 = some (r1, r2)) :
  Calls Tryz.prog 184 #[.agg #[.string a0_0, .string a0_1]] w fun e w' => e = .returned (.agg #[.string r1, .string r2]) ∧ Below w.heap.size w w' := by
 have hu200 := Tryz.underlying200; have hu86 := Tryz.underlying86; have HB := am_ (Below.refl w.heap.size w); have H := h; clear h; unfold eR.f at H
 simp only [Option.some.injEq, Prod.mk.injEq] at H; obtain ⟨rfl, rfl⟩ := H; go_enter Tryz.func184, Tryz.ntmps184
 go_wp2_with (first | ((with_reducible refine gt_ 1 ?_); refine bx_ 1 #[.string a0_0, .string a0_1] 200 ?_; intro gb136 hg w2 hbox hb; have BK136 := am_ (hbox); have GE136 := gw_ HB hg; replace HB := bs_ HB hb; clear hb hbox hg) | ((with_reducible refine gt_ 2 ?_); refine bx_ 2 #[.string (⟨#[]⟩ : ByteArray), .string (⟨#[]⟩ : ByteArray)] 86 ?_; intro gb137 hg w3 hbox hb; have BK137 := am_ (hbox); have GE137 := gw_ HB hg; replace HB := bs_ HB hb; have NB136_137 := nl_ BK136 hg; have NB137_136 := ng_ BK136 hg; replace BK136 := bb_ BK136 hb; clear hb hbox hg) | ((with_reducible refine gt_ 3 ?_); refine bx_ 3 #[.string (⟨#[]⟩ : ByteArray), .string (⟨#[]⟩ : ByteArray)] 86 ?_; intro gb138 hg w4 hbox hb; have BK138 := am_ (hbox); have GE138 := gw_ HB hg; replace HB := bs_ HB hb; have NB136_138 := nl_ BK136 hg; have NB138_136 := ng_ BK136 hg; replace BK136 := bb_ BK136 hb; have NB137_138 := nl_ BK137 hg; have NB138_137 := ng_ BK137 hg; replace BK137 := bb_ BK137 hb; clear hb hbox hg; have hnb5 := NB136_137.out; have hnc5 := NB137_136.out; have hnb6 := NB136_138.out; have hnc6 := NB138_136.out; obtain ⟨hcz7_0, hcz7_1, hfz7_0, hfz7_1⟩ := bj BK136.out; have hnb8 := NB138_137.out; have hnc8 := NB137_138.out; obtain ⟨hcz9_0, hcz9_1, hfz9_0, hfz9_1⟩ := bj BK138.out; obtain ⟨hcz10_0, hcz10_1, hfz10_0, hfz10_1⟩ := bj BK137.out))
 refine bodyPost_ret (results_cell_row rfl _ _ gb137 86 #[.string a0_0, .string a0_1] (0, 0) _ rfl (pb_ BK137) Tryz.underlying86 rfl bY) rfl ?_; exact ⟨u0_, bw_ HB⟩
def bU.l0 : Nat → List (dY) → List (S86) → Int → Option ((List (S86)))
 | 0, _, _, _ => none
 | k + 1, x0, x3, x4 => if x4 < (x0.length : Int) then (if 0 ≤ x4 then ((eR.f ((d7 x0 x4).f0) ((d7 x0 x4).f1)).bind fun bt143 => (if x4 < (x3.length : Int) then (bU.l0 k x0 (x3.set (x4 : Int).toNat (⟨bt143.1, bt143.2⟩ : S86)) (wrap64 (x4 + 1))) else (none))) else (none)) else (some x3)
def bU.f (k : Nat) (l0 : List (dY)) : Option ((List (S86))) := if 0 ≤ (l0.length : Int) then (if ((l0.length : Int) : Int).toNat ≤ 8796093022208 then (bU.l0 k l0 (List.replicate ((l0.length : Int) : Int).toNat z86) 0) else (none)) else (none)
theorem bU.calls (k : Nat) (A0 : Option Addr) (c0 : Nat) (l0 : List (dY)) (r : List (S86)) (w : World) (hr0 : Kd.C i1 w A0 l0.length l0) (hc0 : l0.length ≤ c0) (h : bU.f k l0 = some r) :
  Calls Tryz.prog 164 #[.slice A0 l0.length c0] w fun e w' => ∃ v0_ : Value, e = .returned (v0_) ∧ Kd.R k86 86 w' w.heap.size (fun _ => True) v0_ r ∧ Below w.heap.size w w' := by
 have hu200 := Tryz.underlying200; have hu86 := Tryz.underlying86; have HR0 := am_ hr0; have HC0 := am_ hc0; clear hr0 hc0; have HB := am_ (Below.refl w.heap.size w); have H := h; clear h; unfold bU.f at H
 obtain ⟨c2b0, c2b1, H⟩ := ge_ H; obtain ⟨c3b0, c3b1, H⟩ := ge_ H; generalize hy139 : ((List.replicate ((l0.length : Int) : Int).toNat z86) : List (S86)) = y139 at H; have Ny139 := am_ hy139.symm; clear hy139; have H' := am_ H; clear H; go_enter Tryz.func164, Tryz.ntmps164
 go_wp2_with (first | ((with_reducible refine aE (N := 7) rfl ?_); refine Kd.R_make k86 _ 86 rfl (N := 7) rfl 42 _ _ rfl (l0.length : Int) rfl rfl Tryz.underlying42 (.agg #[(.string ⟨#[]⟩), (.string ⟨#[]⟩)]) 32 oA rfl aC u7_ z86 (ok := fun _ => True) (okp := fun _ => True) (j8 _ _ _ z86 ) (fun _ hk => hk) trivial (od_) (Nat.le_trans (Nat.mul_le_mul_right _ (od_ : (l0.length : Int).toNat ≤ 8796093022208)) u7_) (Below.refl _ _) (Nat.le_refl _) ?_; intro v140 w4 ho5 hb hg_ hnew_; clear hg_ hnew_; (first | rw [← Ny139.out] at ho5 | (simp only [Int.reduceToNat] at ho5; rw [← Ny139.out] at ho5)); have HO141 := am_ (Kd.R_lower ho5 (al (bw_ HB))); replace HB := bs_ HB hb; clear hb ho5))
 go_loopg [4] k (fun kq v4 w' => ∃ (x3_1 : List (S86)) (x4_1 : Int), v4 = .int .i64 x4_1 ∧ aa (bU.l0 kq l0 x3_1 x4_1 = some r) ∧ aa (kq ≤ k) ∧ aa (Kd.R k86 86 w' w.heap.size (fun _ => True) v140 x3_1) ∧ aa (Below w.heap.size w w'))
 case atStart => exact ⟨(y139), (0), u1_, H', ⟨Nat.le_refl _⟩, ⟨aR_ HO141.out⟩, ⟨bw_ HB⟩⟩
 case round =>
  clear H'; try clear c2b0
  try clear c2b1
  try clear c3b0
  try clear c3b1
  obtain ⟨x3_1, x4_1, rfl, HA, HK1, HO_3, HB⟩ := hrel; cases gk with
  | zero => exact absurd HA.out (by simp [bU.l0])
  | succ k1 =>
   have H := HA.out; clear HA; simp only [bU.l0] at H; by_cases c6 : x4_1 < (l0.length : Int)
   ·rw [if_pos c6] at H; have c6b0 := decide_eq_true c6; clear c6; obtain ⟨c7b0, H⟩ := gd_ H; obtain ⟨⟨t143, t144⟩, A8, H⟩ := bi_ H; dsimp only at H; obtain ⟨c9b0, H⟩ := gd_ H; generalize hy145 : ((x3_1.set (x4_1 : Int).toNat (⟨t143, t144⟩ : S86)) : List (S86)) = y145 at H; have Ny145 := am_ hy145.symm; clear hy145; have H' := am_ H; clear H; obtain ⟨ad142, e142, hx142_0, hx142_1⟩ := oY HR0.out x4_1 od_ od_; cases e142; replace hx142_0 := cb_ HB hx142_0; replace hx142_1 := cb_ HB hx142_1; obtain ⟨p142, q142⟩ := pt_ x4_1 l0.length; go_wp2_with (first | ((with_reducible refine gt_ 20 ?_); refine gB_ 20 Tryz.func184 (eR.calls ((d7 l0 x4_1).f0) ((d7 l0 x4_1).f1) t143 t144 _ A8.out) ?_; intro w11 hb; replace HO_3 := am_ (Kd.R_below (aR_ HO_3.out) hb); replace HB := bs_ HB hb; (try clear hb); have p10 : 0 ≤ (x4_1 : Int) := od_; have q10 : (x4_1 : Int) < ((x3_1.length : Int) : Int) := od_; obtain ⟨go10, co10, eo10, gb10, gl10, cl10, HG10⟩ := Kd.R_form HO_3.out u7_; (first | cases eo10 | (injection eo10 with ea_ en_ ec_; (first | subst ea_ | (injection ea_ with ea_; subst ea_)); subst ec_; clear en_)); have GB10 := am_ gb10; have GG10 := am_ HG10; clear gb10 gl10 HG10; obtain ⟨ce10, hcl10, hM10, hcc10, hfr10⟩ := Kd.R_elem HO_3.out z86 (x4_1 : Int) p10 q10; obtain rfl := fa hM10; have hx10_0 : w11.cell? ⟨go10, (x4_1 : Int).toNat * 2, none⟩ = some (.string ((ac x3_1 x4_1).f0)) := hcc10 0 _ rfl; have hx10_1 : w11.cell? ⟨go10, (x4_1 : Int).toNat * 2 + 1, none⟩ = some (.string ((ac x3_1 x4_1).f1)) := hcc10 1 _ rfl; have hf10_0 : w11.frozen? ⟨go10, (x4_1 : Int).toNat * 2, none⟩ = false := hfr10 0; have hf10_1 : w11.frozen? ⟨go10, (x4_1 : Int).toNat * 2 + 1, none⟩ = false := hfr10 1; clear hcl10 hcc10 hfr10 hM10; obtain ⟨p10, q10⟩ := tt_ p10 q10; have HX12 := am_ (show Kd.R k86 86 w11 w.heap.size (fun _ => True) (.slice (some ⟨go10, 0, none⟩) x3_1.length co10) x3_1 from (aR_ HO_3.out)); obtain ⟨ce12, hcl12, hM12, hcc12, hfr12⟩ := Kd.R_elem HX12.out z86 (x4_1 : Int) (od_) (by have h_ : (x4_1 : Int) < ((x3_1.length : Int) : Int) := od_; first | exact h_ | (have e_ := (Kd.R_reads' HO_3.out).1; omega) | simpa using h_); obtain rfl := fa hM12; have HP12 := Kd.R_seg HX12.out (x4_1 : Int) (od_) (by have h_ : (x4_1 : Int) < ((x3_1.length : Int) : Int) := od_; first | exact h_ | (have e_ := (Kd.R_reads' HO_3.out).1; omega) | simpa using h_) (seg := [.string t143, .string t144]) (j := 0) hcl12 hcc12 (show 2 ≤ 2 from aC) (x' := (⟨t143, t144⟩ : S86)) (j8 _ _ _ (⟨t143, t144⟩ : S86) ) (fun _ hk => hk); have hx12_0 := hcc12 0 _ rfl; (try simp only [show (k86).sz = 2 from rfl, Nat.mul_one, Nat.add_zero] at hx12_0); have hf12_0 := hfr12 0; (try simp only [show (k86).sz = 2 from rfl, Nat.mul_one, Nat.add_zero] at hf12_0); have hx12_1 := hcc12 1 _ rfl; (try simp only [show (k86).sz = 2 from rfl, Nat.mul_one, Nat.add_zero] at hx12_1); have hf12_1 := hfr12 1; (try simp only [show (k86).sz = 2 from rfl, Nat.mul_one, Nat.add_zero] at hf12_1); clear hcl12 hcc12 hfr12 hM12) | ((with_reducible refine ee (t := 86) (p := 21) rfl ?_); refine dI (t := 86) (p := 21) (v := ?vo_w13) (w1 := ((w11.setCell ⟨go10, (x4_1 : Int).toNat * 2, none⟩ (.string t143)).setCell ⟨go10, (x4_1 : Int).toNat * 2 + 1, none⟩ (.string t144))) ?hg ?ho ?hn ?hr ?_; (case ho => rfl); (case hg => rfl); (case hn => rfl); (case hr => exact u6_); intro w13 hw; have hg : w11.grownBy w13 (some go10) := (by rw [hw]; exact HP12.2); have hp_ : Kd.R k86 86 w13 w.heap.size (fun _ => True) (.slice (some ⟨go10, 0, none⟩) x3_1.length co10) y145 := (by rw [hw, Ny145.out]; exact HP12.1); clear HP12; replace HO_3 := am_ (hp_); replace HB := am_ ((by rw [hw]; exact bf (bf (HB.out) GB10.out) GB10.out : Below w.heap.size w w13)); clear hg hw hp_))
    go_roundg k1
    case measure => have := HK1.out; omega
    case rel => exact ⟨(y145), (wrap64 (x4_1 + 1)), u1_, H', ⟨dm⟩, ⟨aR_ HO_3.out⟩, ⟨bw_ HB⟩⟩
   ·rw [if_neg c6] at H; have c6b0 := decide_eq_false c6; clear c6; obtain rfl := si_ H; go_wp2; go_ret
    exact ⟨_, u0_, aR_ HO_3.out, bw_ HB⟩
def eJ.f (k : Nat) (a0_0 : ByteArray) (l0_1 : List (dY)) : Option (ByteArray × (List (S86))) := (bU.f k l0_1).bind fun t149 => (some (a0_0, t149))
theorem eJ.calls (k : Nat) (a0_0 : ByteArray) (A0_1 : Option Addr) (c0_1 : Nat) (l0_1 : List (dY)) (r1 : ByteArray) (r2 : List (S86)) (w : World) (hr0_1 : Kd.C i1 w A0_1 l0_1.length l0_1) (hc0_1 : l0_1.length ≤ c0_1) (h : eJ.f k a0_0 l0_1 = some (r1, r2)) :
  Calls Tryz.prog 145 #[.agg #[.string a0_0, .slice A0_1 l0_1.length c0_1]] w fun e w' => ∃ v1_ : Value, e = .returned (.agg #[.string r1, v1_]) ∧ Kd.R k86 86 w' w.heap.size (fun _ => True) v1_ r2 ∧ Below w.heap.size w w' := by
 have hu131 := Tryz.underlying131; have hu44 := Tryz.underlying44; have HR0_1 := am_ hr0_1; have HC0_1 := am_ hc0_1; clear hr0_1 hc0_1; have HB := am_ (Below.refl w.heap.size w); have H := h; clear h; unfold eJ.f at H
 obtain ⟨t149, A2, H⟩ := bi_ H; simp only [Option.some.injEq, Prod.mk.injEq] at H; obtain ⟨rfl, rfl⟩ := H; go_enter Tryz.func145, Tryz.ntmps145
 go_wp2_with (first | ((with_reducible refine gt_ 1 ?_); refine bx_ 1 #[.string a0_0, .slice A0_1 l0_1.length c0_1] 131 ?_; intro gb146 hg w3 hbox hb; have BK146 := am_ (hbox); have GE146 := gw_ HB hg; replace HB := bs_ HB hb; clear hb hbox hg) | ((with_reducible refine gt_ 2 ?_); refine bx_ 2 #[.string (⟨#[]⟩ : ByteArray), .slice none 0 0] 44 ?_; intro gb147 hg w4 hbox hb; have BK147 := am_ (hbox); have GE147 := gw_ HB hg; replace HB := bs_ HB hb; have NB146_147 := nl_ BK146 hg; have NB147_146 := ng_ BK146 hg; replace BK146 := bb_ BK146 hb; clear hb hbox hg) | ((with_reducible refine gt_ 3 ?_); refine bx_ 3 #[.string (⟨#[]⟩ : ByteArray), .slice none 0 0] 44 ?_; intro gb148 hg w5 hbox hb; have BK148 := am_ (hbox); have GE148 := gw_ HB hg; replace HB := bs_ HB hb; have NB146_148 := nl_ BK146 hg; have NB148_146 := ng_ BK146 hg; replace BK146 := bb_ BK146 hb; have NB147_148 := nl_ BK147 hg; have NB148_147 := ng_ BK147 hg; replace BK147 := bb_ BK147 hb; clear hb hbox hg; have hnb6 := NB146_147.out; have hnc6 := NB147_146.out; have hnb7 := NB146_148.out; have hnc7 := NB148_146.out; obtain ⟨hcz8_0, hcz8_1, hfz8_0, hfz8_1⟩ := bj BK146.out; have hnb9 := NB148_147.out; have hnc9 := NB147_148.out; obtain ⟨hcz10_0, hcz10_1, hfz10_0, hfz10_1⟩ := bj BK148.out) | ((with_reducible refine gt_ 9 ?_); refine gf_ 9 Tryz.func164 (bU.calls k _ _ l0_1 t149 _ (kc_ HR0_1 HB) HC0_1.out A2.out) ?_; rintro e w11 ⟨v150, rfl, ho0, hb⟩; refine ⟨_, rfl, ?_⟩; have HO151 := am_ (Kd.R_lower ho0 (al (bw_ HB))); replace BK147 := bb_ BK147 hb; replace BK148 := am_ (bh (g := gb148) (o := .cells #[.string a0_0, .slice none 0 0] 44 (0, 0)) (pb_ BK148) hb); replace HB := bs_ HB hb; (try clear hb); (try clear ho0); obtain ⟨Ao12, co12, eo12⟩ := Kd.R_slice HO151.out; subst eo12; obtain ⟨hcz13_0, hcz13_1, hfz13_0, hfz13_1⟩ := bj BK148.out; obtain ⟨hcz14_0, hcz14_1, hfz14_0, hfz14_1⟩ := bj BK147.out))
 refine bodyPost_ret (results_cell_row rfl _ _ gb147 44 #[.string a0_0, .slice Ao12 t149.length co12] (0, 0) _ rfl (pb_ BK147) Tryz.underlying44 rfl bY) rfl ?_; exact ⟨_, u0_, by (with_reducible repeat (first | apply Kd.R_alloc | apply Kd.R_drewN | apply Kd.R_drew)); exact Kd.R_mono (Kd.R_far (p := ⟨gb147, 1, none⟩) (Kd.R_far (p := ⟨gb147, 0, none⟩) (Kd.R_far (p := ⟨gb148, 1, none⟩) (Kd.R_types (Kd.R_types HO151.out BK148.out aC) BK147.out aC) (fun _ hk => hk.1.2) (.slice Ao12 t149.length co12)) (fun _ hk => hk.2) (.string a0_0)) (fun _ hk => hk.2) (.slice Ao12 t149.length co12)) (fun _ hk => trivial), bw_ HB⟩
def eH.f (k : Nat) (a0_0 : Int) (a0_1 : ByteArray) (l0_2 : List (dY)) : Option (Int × ByteArray × (List (S86))) := (eJ.f k a0_1 l0_2).bind fun bt155 => (some (a0_0, bt155.1, bt155.2))
theorem eH.calls (k : Nat) (a0_0 : Int) (a0_1 : ByteArray) (A0_2 : Option Addr) (c0_2 : Nat) (l0_2 : List (dY)) (r1 : Int) (r2 : ByteArray) (r3 : List (S86)) (w : World) (hr0_2 : Kd.C i1 w A0_2 l0_2.length l0_2) (hc0_2 : l0_2.length ≤ c0_2) (h : eH.f k a0_0 a0_1 l0_2 = some (r1, r2, r3)) :
  Calls Tryz.prog 106 #[.agg #[.int .i64 a0_0, .string a0_1, .slice A0_2 l0_2.length c0_2]] w fun e w' => ∃ v2_ : Value, e = .returned (.agg #[.int .i64 r1, .string r2, v2_]) ∧ Kd.R k86 86 w' w.heap.size (fun _ => True) v2_ r3 ∧ Below w.heap.size w w' := by
 have hu133 := Tryz.underlying133; have hu46 := Tryz.underlying46; have hu131 := Tryz.underlying131; have hu44 := Tryz.underlying44; have HR0_2 := am_ hr0_2; have HC0_2 := am_ hc0_2; clear hr0_2 hc0_2; have HB := am_ (Below.refl w.heap.size w); have H := h; clear h; unfold eH.f at H
 obtain ⟨⟨t155, t156⟩, A2, H⟩ := bi_ H; dsimp only at H; simp only [Option.some.injEq, Prod.mk.injEq] at H; obtain ⟨rfl, rfl, rfl⟩ := H; go_enter Tryz.func106, Tryz.ntmps106
 go_wp2_with (first | ((with_reducible refine gt_ 1 ?_); refine bx_ 1 #[.int .i64 a0_0, .string a0_1, .slice A0_2 l0_2.length c0_2] 133 ?_; intro gb152 hg w3 hbox hb; have BK152 := am_ (hbox); have GE152 := gw_ HB hg; replace HB := bs_ HB hb; clear hb hbox hg) | ((with_reducible refine gt_ 2 ?_); refine bx_ 2 #[.int .i64 0, .string (⟨#[]⟩ : ByteArray), .slice none 0 0] 46 ?_; intro gb153 hg w4 hbox hb; have BK153 := am_ (hbox); have GE153 := gw_ HB hg; replace HB := bs_ HB hb; have NB152_153 := nl_ BK152 hg; have NB153_152 := ng_ BK152 hg; replace BK152 := bb_ BK152 hb; clear hb hbox hg) | ((with_reducible refine gt_ 3 ?_); refine bx_ 3 #[.int .i64 0, .string (⟨#[]⟩ : ByteArray), .slice none 0 0] 46 ?_; intro gb154 hg w5 hbox hb; have BK154 := am_ (hbox); have GE154 := gw_ HB hg; replace HB := bs_ HB hb; have NB152_154 := nl_ BK152 hg; have NB154_152 := ng_ BK152 hg; replace BK152 := bb_ BK152 hb; have NB153_154 := nl_ BK153 hg; have NB154_153 := ng_ BK153 hg; replace BK153 := bb_ BK153 hb; clear hb hbox hg; have hnb6 := NB152_153.out; have hnc6 := NB153_152.out; have hnb7 := NB152_154.out; have hnc7 := NB154_152.out; obtain ⟨hcz8_0, hcz8_1, hcz8_2, hfz8_0, hfz8_1, hfz8_2⟩ := bR BK152.out; have hnb9 := NB154_153.out; have hnc9 := NB153_154.out; obtain ⟨hcz10_0, hcz10_1, hcz10_2, hfz10_0, hfz10_1, hfz10_2⟩ := bR BK154.out) | ((with_reducible refine gt_ 9 ?_); refine gf_ 9 Tryz.func145 (eJ.calls k a0_1 _ _ l0_2 t155 t156 _ (kc_ HR0_2 HB) HC0_2.out A2.out) ?_; rintro e w11 ⟨v157, rfl, ho0, hb⟩; refine ⟨_, rfl, ?_⟩; have HO158 := am_ (Kd.R_lower ho0 (al (bw_ HB))); replace BK153 := bb_ BK153 hb; replace BK154 := am_ (bh (g := gb154) (o := .cells #[.int .i64 a0_0, .string (⟨#[]⟩ : ByteArray), .slice none 0 0] 46 (0, 0)) (pb_ BK154) hb); replace HB := bs_ HB hb; (try clear hb); (try clear ho0); obtain ⟨hcz12_0, hcz12_1, hcz12_2, hfz12_0, hfz12_1, hfz12_2⟩ := bR BK154.out; obtain ⟨Ao13, co13, eo13⟩ := Kd.R_slice HO158.out; subst eo13; obtain ⟨hcz14_0, hcz14_1, hcz14_2, hfz14_0, hfz14_1, hfz14_2⟩ := bR BK153.out))
 refine bodyPost_ret (results_cell_row rfl _ _ gb153 46 #[.int .i64 a0_0, .string t155, .slice Ao13 t156.length co13] (0, 0) _ rfl (pb_ BK153) Tryz.underlying46 rfl bY) rfl ?_; exact ⟨_, u0_, by (with_reducible repeat (first | apply Kd.R_alloc | apply Kd.R_drewN | apply Kd.R_drew)); exact Kd.R_mono (Kd.R_far (p := ⟨gb153, 2, none⟩) (Kd.R_far (p := ⟨gb153, 1, none⟩) (Kd.R_far (p := ⟨gb153, 0, none⟩) (Kd.R_far (p := ⟨gb154, 2, none⟩) (Kd.R_far (p := ⟨gb154, 1, none⟩) (Kd.R_types (Kd.R_types HO158.out BK154.out aC) BK153.out aC) (fun _ hk => hk.1.2) (.string t155)) (fun _ hk => hk.1.2) (.slice Ao13 t156.length co13)) (fun _ hk => hk.2) (.int .i64 a0_0)) (fun _ hk => hk.2) (.string t155)) (fun _ hk => hk.2) (.slice Ao13 t156.length co13)) (fun _ hk => trivial), bw_ HB⟩
def cg.l0 : Nat → List (dS) → List (S46) → Int → Option ((List (S46)))
 | 0, _, _, _ => none
 | k + 1, x0, x3, x4 => if x4 < (x0.length : Int) then (if 0 ≤ x4 then ((eH.f k ((cX x0 x4).f0) ((cX x0 x4).f1.f0) ((cX x0 x4).f1.f1)).bind fun bt163 => (if x4 < (x3.length : Int) then (cg.l0 k x0 (x3.set (x4 : Int).toNat (⟨bt163.1, (⟨bt163.2.1, bt163.2.2⟩ : S44)⟩ : S46)) (wrap64 (x4 + 1))) else (none))) else (none)) else (some x3)
def cg.f (k : Nat) (l0 : List (dS)) : Option ((List (S46))) := if 0 ≤ (l0.length : Int) then (if ((l0.length : Int) : Int).toNat ≤ 5864062014805 then (cg.l0 k l0 (List.replicate ((l0.length : Int) : Int).toNat z46) 0) else (none)) else (none)
theorem cg.calls (k : Nat) (A0 : Option Addr) (c0 : Nat) (l0 : List (dS)) (r : List (S46)) (w : World) (hr0 : Kd.C nc w A0 l0.length l0) (hc0 : l0.length ≤ c0) (h : cg.f k l0 = some r) :
  Calls Tryz.prog 61 #[.slice A0 l0.length c0] w fun e w' => ∃ v0_ : Value, e = .returned (v0_) ∧ Kd.S k46 46 w' w.heap.size (fun _ => True) v0_ r ∧ Below w.heap.size w w' := by
 have hu133 := Tryz.underlying133; have hu46 := Tryz.underlying46; have HR0 := am_ hr0; have HC0 := am_ hc0; clear hr0 hc0; have HB := am_ (Below.refl w.heap.size w); have H := h; clear h; unfold cg.f at H
 obtain ⟨c2b0, c2b1, H⟩ := ge_ H; obtain ⟨c3b0, c3b1, H⟩ := ge_ H; generalize hy159 : ((List.replicate ((l0.length : Int) : Int).toNat z46) : List (S46)) = y159 at H; have Ny159 := am_ hy159.symm; clear hy159; have H' := am_ H; clear H; go_enter Tryz.func61, Tryz.ntmps61
 go_wp2_with (first | ((with_reducible refine aE (N := 7) rfl ?_); refine Kd.S_make k46 _ 46 rfl (N := 7) rfl 24 _ _ rfl (l0.length : Int) rfl rfl Tryz.underlying24 (.agg #[(.int .i64 0), (.string ⟨#[]⟩), (.slice none 0 0)]) 48 info46 rfl aC u7_ z46 (ok := fun _ => True) (okp := fun _ => True) (pv _ _ _ z46 (Kd.R_nil _ _ _ _ _)) (fun _ hk => hk) trivial (od_) (Nat.le_trans (Nat.mul_le_mul_right _ (od_ : (l0.length : Int).toNat ≤ 5864062014805)) u7_) (Below.refl _ _) (Nat.le_refl _) ?_; intro v160 w4 ho5 hb hg_ hnew_; clear hg_ hnew_; (first | rw [← Ny159.out] at ho5 | (simp only [Int.reduceToNat] at ho5; rw [← Ny159.out] at ho5)); have HO161 := am_ (Kd.S_lower ho5 (al (bw_ HB))); replace HB := bs_ HB hb; clear hb ho5))
 go_loopg [4] k (fun kq v4 w' => ∃ (x3_1 : List (S46)) (x4_1 : Int), v4 = .int .i64 x4_1 ∧ aa (cg.l0 kq l0 x3_1 x4_1 = some r) ∧ aa (kq ≤ k) ∧ aa (Kd.S k46 46 w' w.heap.size (fun _ => True) v160 x3_1) ∧ aa (Below w.heap.size w w'))
 case atStart => exact ⟨(y159), (0), u1_, H', ⟨Nat.le_refl _⟩, ⟨aS_ HO161.out⟩, ⟨bw_ HB⟩⟩
 case round =>
  clear H'; try clear c2b0
  try clear c2b1
  try clear c3b0
  try clear c3b1
  obtain ⟨x3_1, x4_1, rfl, HA, HK1, HO_3, HB⟩ := hrel; cases gk with
  | zero => exact absurd HA.out (by simp [cg.l0])
  | succ k1 =>
   have H := HA.out; clear HA; simp only [cg.l0] at H; by_cases c6 : x4_1 < (l0.length : Int)
   ·rw [if_pos c6] at H; have c6b0 := decide_eq_true c6; clear c6; obtain ⟨c7b0, H⟩ := gd_ H; obtain ⟨⟨t163, t164, t165⟩, A8, H⟩ := bi_ H; dsimp only at H; obtain ⟨c9b0, H⟩ := gd_ H; generalize hy168 : ((x3_1.set (x4_1 : Int).toNat (⟨t163, (⟨t164, t165⟩ : S44)⟩ : S46)) : List (S46)) = y168 at H; have Ny168 := am_ hy168.symm; clear hy168; have H' := am_ H; clear H; obtain ⟨ad162, A162_2, c162_2, e162, hx162_0, hx162_1, hx162_2, hl162_2, hi162_2⟩ := pp HR0.out x4_1 od_ od_; cases e162; replace hx162_0 := cb_ HB hx162_0; replace hx162_1 := cb_ HB hx162_1; replace hx162_2 := cb_ HB hx162_2; have HR162_2 := am_ hi162_2; have HC162_2 := am_ hl162_2; clear hi162_2 hl162_2; obtain ⟨p162, q162⟩ := pt_ x4_1 l0.length; go_wp2_with (first | ((with_reducible refine gt_ 20 ?_); refine gf_ 20 Tryz.func106 (eH.calls k1 ((cX l0 x4_1).f0) ((cX l0 x4_1).f1.f0) _ _ ((cX l0 x4_1).f1.f1) t163 t164 t165 _ (kc_ HR162_2 HB) HC162_2.out A8.out) ?_; rintro e w11 ⟨v166, rfl, ho0, hb⟩; refine ⟨_, rfl, ?_⟩; replace HO_3 := am_ (Kd.S_elder' (aS_ HO_3.out) (Kd.R_base ho0) hb); have HO167 := am_ (Kd.R_lower ho0 (al (bw_ HB))); replace HB := bs_ HB hb; (try clear hb); (try clear ho0); have p10 : 0 ≤ (x4_1 : Int) := od_; have q10 : (x4_1 : Int) < ((x3_1.length : Int) : Int) := od_; obtain ⟨go10, co10, eo10, gb10, gl10, cl10, HG10⟩ := Kd.S_form HO_3.out u7_; (first | cases eo10 | (injection eo10 with ea_ en_ ec_; (first | subst ea_ | (injection ea_ with ea_; subst ea_)); subst ec_; clear en_)); have GB10 := am_ gb10; have GG10 := am_ HG10; clear gb10 gl10 HG10; obtain ⟨_, ce10, hcl10, hM10, hcc10, hfr10, _, _⟩ := Kd.S_elem HO_3.out z46 (x4_1 : Int) p10 q10; obtain ⟨ve10_2, rfl, ge10_2⟩ := js hM10; have hx10_0 : w11.cell? ⟨go10, (x4_1 : Int).toNat * 3, none⟩ = some (.int .i64 ((ab x3_1 x4_1).f0)) := hcc10 0 _ rfl; have hx10_1 : w11.cell? ⟨go10, (x4_1 : Int).toNat * 3 + 1, none⟩ = some (.string ((ab x3_1 x4_1).f1.f0)) := hcc10 1 _ rfl; have hx10_2 : w11.cell? ⟨go10, (x4_1 : Int).toNat * 3 + 2, none⟩ = some (ve10_2) := hcc10 2 _ rfl; have hf10_0 : w11.frozen? ⟨go10, (x4_1 : Int).toNat * 3, none⟩ = false := hfr10 0; have hf10_1 : w11.frozen? ⟨go10, (x4_1 : Int).toNat * 3 + 1, none⟩ = false := hfr10 1; have hf10_2 : w11.frozen? ⟨go10, (x4_1 : Int).toNat * 3 + 2, none⟩ = false := hfr10 2; clear hcl10 hcc10 hfr10 hM10; obtain ⟨p10, q10⟩ := tt_ p10 q10; have n_ := am_ (Kd.S_mono (ok' := (fun k_ => some k_ ≠ (v166 : Value).ownBlock)) HO_3.out (fun k_ hk => hk.2)); clear HO_3; have HO_3 := n_; clear n_; have HX12 := am_ (show Kd.S k46 46 w11 w.heap.size (fun k_ => ((fun _ => True)) k_ ∧ ¬ ((fun k_ => some k_ = (v166 : Value).ownBlock)) k_) (.slice (some ⟨go10, 0, none⟩) x3_1.length co10) x3_1 from u68_); obtain ⟨oki12, ce12, hcl12, hM12, hcc12, hfr12, hoki12, hH12⟩ := Kd.S_elem HX12.out z46 (x4_1 : Int) (od_) (by have h_ : (x4_1 : Int) < ((x3_1.length : Int) : Int) := od_; first | exact h_ | (have e_ := (Kd.S_reads' HO_3.out).1; omega) | simpa using h_); obtain ⟨ve12_2, rfl, ge12_2⟩ := js hM12; have HP12 := Kd.S_seg hH12 (od_) (by have h_ : (x4_1 : Int) < ((x3_1.length : Int) : Int) := od_; first | exact h_ | (have e_ := (Kd.S_reads' HO_3.out).1; omega) | simpa using h_) (seg := [.int .i64 t163, .string t164, v166]) (j := 0) (show 3 ≤ 3 from aC) (x' := (⟨t163, (⟨t164, t165⟩ : S44)⟩ : S46)) (pv _ _ _ (⟨t163, (⟨t164, t165⟩ : S44)⟩ : S46) (Kd.R_mono (Kd.R_tight rfl (Kd.R_mono (ok' := fun k_ => ((fun _ => True)) k_ ∧ k_ ≠ go10) (Kd.R_apart' (HO167.out) (Kd.S_typed HO_3.out) aC) (fun k_ hk => ⟨trivial, fun e_ => (hk.2) (by rw [e_]; rfl)⟩))) (fun _ h_ => Or.inr (h_)))) (fun _ hk => hk) (fun k_ hk_ => ((Kd.R_mono (ok' := fun k_ => ((fun _ => True)) k_ ∧ k_ ≠ go10) (Kd.R_apart' (HO167.out) (Kd.S_typed HO_3.out) aC) (fun k_ hk => ⟨trivial, fun e_ => (hk.2) (by rw [e_]; rfl)⟩))).1 k_ hk_.symm); have hx12_0 := hcc12 0 _ rfl; (try simp only [show (k46).sz = 3 from rfl, Nat.mul_one, Nat.add_zero] at hx12_0); have hf12_0 := hfr12 0; (try simp only [show (k46).sz = 3 from rfl, Nat.mul_one, Nat.add_zero] at hf12_0); have hx12_1 := hcc12 1 _ rfl; (try simp only [show (k46).sz = 3 from rfl, Nat.mul_one, Nat.add_zero] at hx12_1); have hf12_1 := hfr12 1; (try simp only [show (k46).sz = 3 from rfl, Nat.mul_one, Nat.add_zero] at hf12_1); have hx12_2 := hcc12 2 _ rfl; (try simp only [show (k46).sz = 3 from rfl, Nat.mul_one, Nat.add_zero] at hx12_2); have hf12_2 := hfr12 2; (try simp only [show (k46).sz = 3 from rfl, Nat.mul_one, Nat.add_zero] at hf12_2); clear hcl12 hcc12 hfr12 hM12 hoki12 hH12) | ((with_reducible refine ee (t := 46) (p := 21) rfl ?_); refine dI (t := 46) (p := 21) (v := ?vo_w13) (w1 := (((w11.setCell ⟨go10, (x4_1 : Int).toNat * 3, none⟩ (.int .i64 t163)).setCell ⟨go10, (x4_1 : Int).toNat * 3 + 1, none⟩ (.string t164)).setCell ⟨go10, (x4_1 : Int).toNat * 3 + 2, none⟩ (v166))) ?hg ?ho ?hn ?hr ?_; (case ho => rfl); (case hg => rfl); (case hn => rfl); (case hr => first | (go_simp; done) | (go_simp; rfl) | (obtain ⟨_, _, e_⟩ := Kd.R_slice HO167.out; subst e_; first | (go_simp; done) | (go_simp; rfl))); intro w13 hw; have hg : w11.grownBy w13 (some go10) := (by rw [hw]; exact HP12.2); have hp_ : Kd.S k46 46 w13 w.heap.size (fun _ => True) (.slice (some ⟨go10, 0, none⟩) x3_1.length co10) y168 := (by rw [hw, Ny168.out]; exact HP12.1); clear HP12; replace HO_3 := am_ (hp_); replace HB := am_ ((by rw [hw]; exact bf (bf (bf (HB.out) GB10.out) GB10.out) GB10.out : Below w.heap.size w w13)); clear HO167 hg hw hp_))
    go_roundg k1
    case measure => have := HK1.out; omega
    case rel => exact ⟨(y168), (wrap64 (x4_1 + 1)), u1_, H', ⟨dm⟩, ⟨aS_ HO_3.out⟩, ⟨bw_ HB⟩⟩
   ·rw [if_neg c6] at H; have c6b0 := decide_eq_false c6; clear c6; obtain rfl := si_ H; go_wp2; go_ret
    exact ⟨_, u0_, aS_ HO_3.out, bw_ HB⟩
def ca.l0 : Nat → List Int → List Int → Int → Option (List Int)
 | 0, _, _, _ => none
 | k + 1, x0, x3, x4 => if x4 < (x0.length : Int) then (if 0 ≤ x4 then (if x4 < (x3.length : Int) then (ca.l0 k x0 (x3.set (x4 : Int).toNat (rd x0 x4)) (wrap64 (x4 + 1))) else (none)) else (none)) else (some x3)
def ca.f (k : Nat) (l0 : List Int) : Option (List Int) := if 0 ≤ (l0.length : Int) then (if ((l0.length : Int) : Int).toNat ≤ 35184372088832 then (ca.l0 k l0 (List.replicate ((l0.length : Int) : Int).toNat 0) 0) else (none)) else (none)
theorem ca.calls (k : Nat) (A0 : Option Addr) (c0 : Nat) (l0 : List Int) (r : List Int) (w : World) (hr0 : Kd.C (Kd.int .i64) w A0 l0.length l0) (hc0 : l0.length ≤ c0) (h : ca.f k l0 = some r) :
  Calls Tryz.prog 185 #[.slice A0 l0.length c0] w fun e w' => ∃ v0_ : Value, e = .returned (v0_) ∧ Kd.R (Kd.int .i64) 3 w' w.heap.size (fun _ => True) v0_ r ∧ Below w.heap.size w w' := by
 have HR0 := am_ hr0; have HC0 := am_ hc0; clear hr0 hc0; have HB := am_ (Below.refl w.heap.size w); have H := h; clear h; unfold ca.f at H
 by_cases c2 : 0 ≤ (l0.length : Int)
 ·rw [if_pos c2] at H; have c2b0 := eq_true c2; have c2b1 := decide_eq_true c2; clear c2; obtain ⟨c3b0, c3b1, H⟩ := ge_ H; generalize hy169 : ((List.replicate ((l0.length : Int) : Int).toNat 0) : List Int) = y169 at H; have Ny169 := am_ hy169.symm; clear hy169; have H' := am_ H; clear H; go_enter Tryz.func185, Tryz.ntmps185
  go_wp2_with (first | ((with_reducible refine aE (N := 7) rfl ?_); refine Kd.R_make (Kd.int .i64) _ 3 rfl (N := 7) rfl 39 _ _ rfl (l0.length : Int) rfl rfl Tryz.underlying39 (.int .i64 0) 8 qR rfl aC u7_ 0 (ok := fun _ => True) (okp := fun _ => True) rfl (fun _ hk => hk) trivial (od_) (Nat.le_trans (Nat.mul_le_mul_right _ (od_ : (l0.length : Int).toNat ≤ 35184372088832)) u7_) (Below.refl _ _) (Nat.le_refl _) ?_; intro v170 w4 ho5 hb hg_ hnew_; clear hg_ hnew_; (first | rw [← Ny169.out] at ho5 | (simp only [Int.reduceToNat] at ho5; rw [← Ny169.out] at ho5)); have HO171 := am_ (Kd.R_lower ho5 (al (bw_ HB))); replace HB := bs_ HB hb; clear hb ho5))
  go_loopg [4] k (fun kq v4 w' => ∃ (x3_1 : List Int) (x4_1 : Int), v4 = .int .i64 x4_1 ∧ aa (ca.l0 kq l0 x3_1 x4_1 = some r) ∧ aa (kq ≤ k) ∧ aa (Kd.R (Kd.int .i64) 3 w' w.heap.size (fun _ => True) v170 x3_1) ∧ aa (Below w.heap.size w w'))
  case atStart => exact ⟨(y169), (0), u1_, H', ⟨Nat.le_refl _⟩, ⟨aR_ HO171.out⟩, ⟨bw_ HB⟩⟩
  case round =>
   clear H'; try clear c2
   try clear c2b0
   try clear c2b1
   try clear c3b0
   try clear c3b1
   obtain ⟨x3_1, x4_1, rfl, HA, HK1, HO_3, HB⟩ := hrel; cases gk with
   | zero => exact absurd HA.out (by simp [ca.l0])
   | succ k1 =>
    have H := HA.out; clear HA; simp only [ca.l0] at H; by_cases c6 : x4_1 < (l0.length : Int)
    ·rw [if_pos c6] at H; have c6b0 := decide_eq_true c6; clear c6; obtain ⟨c7b0, H⟩ := gd_ H; obtain ⟨c8b0, H⟩ := gd_ H; generalize hy173 : ((x3_1.set (x4_1 : Int).toNat (rd l0 x4_1)) : List Int) = y173 at H; have Ny173 := am_ hy173.symm; clear hy173; have H' := am_ H; clear H; obtain ⟨ad172, e172, hx172_0⟩ := Kd.at_int HR0.out x4_1 od_ od_; cases e172; replace hx172_0 := cb_ HB hx172_0; obtain ⟨p172, q172⟩ := pt_ x4_1 l0.length; have p9 : 0 ≤ (x4_1 : Int) := od_; have q9 : (x4_1 : Int) < ((x3_1.length : Int) : Int) := od_; obtain ⟨go9, co9, eo9, gb9, gl9, cl9, HG9⟩ := Kd.R_form HO_3.out u7_; (first | cases eo9 | (injection eo9 with ea_ en_ ec_; (first | subst ea_ | (injection ea_ with ea_; subst ea_)); subst ec_; clear en_))
     have GB9 := am_ gb9; have GG9 := am_ HG9; clear gb9 gl9 HG9; obtain ⟨hx9_0, hf9_0⟩ := Kd.R_celln 0 HO_3.out (x4_1 : Int) p9 q9; obtain ⟨p9, q9⟩ := tt_ p9 q9; have HP10 := Kd.R_putg HO_3.out (x4_1 : Int) (rd l0 x4_1); go_wp2_with (first | ((with_reducible refine ee (t := 3) (p := 20) rfl ?_); refine dI (t := 3) (p := 20) (v := ?vo_w11) (w1 := (wr.setCell ⟨go9, (x4_1 : Int).toNat, none⟩ (.int .i64 (rd l0 x4_1)))) ?hg ?ho ?hn ?hr ?_; (case ho => rfl); (case hg => rfl); (case hn => rfl); (case hr => exact u6_); intro w11 hw; have hg : wr.grownBy w11 (some go9) := (by rw [hw]; exact HP10.2); have hp_ : Kd.R (Kd.int .i64) 3 w11 w.heap.size (fun _ => True) (.slice (some ⟨go9, 0, none⟩) x3_1.length co9) y173 := (by rw [hw, Ny173.out]; exact HP10.1); clear HP10; replace HO_3 := am_ (hp_); replace HB := am_ ((by rw [hw]; exact bf (HB.out) GB9.out : Below w.heap.size w w11)); clear hg hw hp_))
     go_roundg k1
     case measure => have := HK1.out; omega
     case rel => exact ⟨(y173), (wrap64 (x4_1 + 1)), u1_, H', ⟨dm⟩, ⟨aR_ HO_3.out⟩, ⟨bw_ HB⟩⟩
    ·rw [if_neg c6] at H; have c6b0 := decide_eq_false c6; clear c6; obtain rfl := si_ H; go_wp2; go_ret
     exact ⟨_, u0_, aR_ HO_3.out, bw_ HB⟩
 ·rw [if_neg c2] at H; exact absurd H cM
def d9.f (k : Nat) (a0_0 : Int) (l0_1 : List Int) : Option (Int × List Int) := (ca.f k l0_1).bind fun t177 => (some (a0_0, t177))
theorem d9.calls (k : Nat) (a0_0 : Int) (A0_1 : Option Addr) (c0_1 : Nat) (l0_1 : List Int) (r1 : Int) (r2 : List Int) (w : World) (hr0_1 : Kd.C (Kd.int .i64) w A0_1 l0_1.length l0_1) (hc0_1 : l0_1.length ≤ c0_1) (h : d9.f k a0_0 l0_1 = some (r1, r2)) :
  Calls Tryz.prog 165 #[.agg #[.int .i64 a0_0, .slice A0_1 l0_1.length c0_1]] w fun e w' => ∃ v1_ : Value, e = .returned (.agg #[.int .i64 r1, v1_]) ∧ Kd.R (Kd.int .i64) 3 w' w.heap.size (fun _ => True) v1_ r2 ∧ Below w.heap.size w w' := by
 have hu182 := Tryz.underlying182; have hu50 := Tryz.underlying50; have HR0_1 := am_ hr0_1; have HC0_1 := am_ hc0_1; clear hr0_1 hc0_1; have HB := am_ (Below.refl w.heap.size w); have H := h; clear h; unfold d9.f at H
 obtain ⟨t177, A2, H⟩ := bi_ H; simp only [Option.some.injEq, Prod.mk.injEq] at H; obtain ⟨rfl, rfl⟩ := H; go_enter Tryz.func165, Tryz.ntmps165
 go_wp2_with (first | ((with_reducible refine gt_ 1 ?_); refine bx_ 1 #[.int .i64 a0_0, .slice A0_1 l0_1.length c0_1] 182 ?_; intro gb174 hg w3 hbox hb; have BK174 := am_ (hbox); have GE174 := gw_ HB hg; replace HB := bs_ HB hb; clear hb hbox hg) | ((with_reducible refine gt_ 2 ?_); refine bx_ 2 #[.int .i64 0, .slice none 0 0] 50 ?_; intro gb175 hg w4 hbox hb; have BK175 := am_ (hbox); have GE175 := gw_ HB hg; replace HB := bs_ HB hb; have NB174_175 := nl_ BK174 hg; have NB175_174 := ng_ BK174 hg; replace BK174 := bb_ BK174 hb; clear hb hbox hg) | ((with_reducible refine gt_ 3 ?_); refine bx_ 3 #[.int .i64 0, .slice none 0 0] 50 ?_; intro gb176 hg w5 hbox hb; have BK176 := am_ (hbox); have GE176 := gw_ HB hg; replace HB := bs_ HB hb; have NB174_176 := nl_ BK174 hg; have NB176_174 := ng_ BK174 hg; replace BK174 := bb_ BK174 hb; have NB175_176 := nl_ BK175 hg; have NB176_175 := ng_ BK175 hg; replace BK175 := bb_ BK175 hb; clear hb hbox hg; have hnb6 := NB174_175.out; have hnc6 := NB175_174.out; have hnb7 := NB174_176.out; have hnc7 := NB176_174.out; obtain ⟨hcz8_0, hcz8_1, hfz8_0, hfz8_1⟩ := bj BK174.out; have hnb9 := NB176_175.out; have hnc9 := NB175_176.out; obtain ⟨hcz10_0, hcz10_1, hfz10_0, hfz10_1⟩ := bj BK176.out) | ((with_reducible refine gt_ 9 ?_); refine gf_ 9 Tryz.func185 (ca.calls k _ _ l0_1 t177 _ (kc_ HR0_1 HB) HC0_1.out A2.out) ?_; rintro e w11 ⟨v178, rfl, ho0, hb⟩; refine ⟨_, rfl, ?_⟩; have HO179 := am_ (Kd.R_lower ho0 (al (bw_ HB))); replace BK175 := bb_ BK175 hb; replace BK176 := am_ (bh (g := gb176) (o := .cells #[.int .i64 a0_0, .slice none 0 0] 50 (0, 0)) (pb_ BK176) hb); replace HB := bs_ HB hb; (try clear hb); (try clear ho0); obtain ⟨Ao12, co12, eo12⟩ := Kd.R_slice HO179.out; subst eo12; obtain ⟨hcz13_0, hcz13_1, hfz13_0, hfz13_1⟩ := bj BK176.out; obtain ⟨hcz14_0, hcz14_1, hfz14_0, hfz14_1⟩ := bj BK175.out))
 refine bodyPost_ret (results_cell_row rfl _ _ gb175 50 #[.int .i64 a0_0, .slice Ao12 t177.length co12] (0, 0) _ rfl (pb_ BK175) Tryz.underlying50 rfl bY) rfl ?_; exact ⟨_, u0_, by (with_reducible repeat (first | apply Kd.R_alloc | apply Kd.R_drewN | apply Kd.R_drew)); exact Kd.R_mono (Kd.R_far (p := ⟨gb175, 1, none⟩) (Kd.R_far (p := ⟨gb175, 0, none⟩) (Kd.R_far (p := ⟨gb176, 1, none⟩) (Kd.R_types (Kd.R_types HO179.out BK176.out aC) BK175.out aC) (fun _ hk => hk.1.2) (.slice Ao12 t177.length co12)) (fun _ hk => hk.2) (.int .i64 a0_0)) (fun _ hk => hk.2) (.slice Ao12 t177.length co12)) (fun _ hk => trivial), bw_ HB⟩
def bW.l0 : Nat → List (eC) → List (S50) → Int → Option ((List (S50)))
 | 0, _, _, _ => none
 | k + 1, x0, x3, x4 => if x4 < (x0.length : Int) then (if 0 ≤ x4 then ((d9.f k ((dC x0 x4).f0) ((dC x0 x4).f1)).bind fun bt184 => (if x4 < (x3.length : Int) then (bW.l0 k x0 (x3.set (x4 : Int).toNat (⟨bt184.1, bt184.2⟩ : S50)) (wrap64 (x4 + 1))) else (none))) else (none)) else (some x3)
def bW.f (k : Nat) (l0 : List (eC)) : Option ((List (S50))) := if 0 ≤ (l0.length : Int) then (if ((l0.length : Int) : Int).toNat ≤ 8796093022208 then (bW.l0 k l0 (List.replicate ((l0.length : Int) : Int).toNat z50) 0) else (none)) else (none)
theorem bW.calls (k : Nat) (A0 : Option Addr) (c0 : Nat) (l0 : List (eC)) (r : List (S50)) (w : World) (hr0 : Kd.C lq w A0 l0.length l0) (hc0 : l0.length ≤ c0) (h : bW.f k l0 = some r) :
  Calls Tryz.prog 146 #[.slice A0 l0.length c0] w fun e w' => ∃ v0_ : Value, e = .returned (v0_) ∧ Kd.S k50 50 w' w.heap.size (fun _ => True) v0_ r ∧ Below w.heap.size w w' := by
 have hu182 := Tryz.underlying182; have hu50 := Tryz.underlying50; have HR0 := am_ hr0; have HC0 := am_ hc0; clear hr0 hc0; have HB := am_ (Below.refl w.heap.size w); have H := h; clear h; unfold bW.f at H
 obtain ⟨c2b0, c2b1, H⟩ := ge_ H; obtain ⟨c3b0, c3b1, H⟩ := ge_ H; generalize hy180 : ((List.replicate ((l0.length : Int) : Int).toNat z50) : List (S50)) = y180 at H; have Ny180 := am_ hy180.symm; clear hy180; have H' := am_ H; clear H; go_enter Tryz.func146, Tryz.ntmps146
 go_wp2_with (first | ((with_reducible refine aE (N := 7) rfl ?_); refine Kd.S_make k50 _ 50 rfl (N := 7) rfl 34 _ _ rfl (l0.length : Int) rfl rfl Tryz.underlying34 (.agg #[(.int .i64 0), (.slice none 0 0)]) 32 mK rfl aC u7_ z50 (ok := fun _ => True) (okp := fun _ => True) (iL _ _ _ z50 (Kd.R_nil _ _ _ _ _)) (fun _ hk => hk) trivial (od_) (Nat.le_trans (Nat.mul_le_mul_right _ (od_ : (l0.length : Int).toNat ≤ 8796093022208)) u7_) (Below.refl _ _) (Nat.le_refl _) ?_; intro v181 w4 ho5 hb hg_ hnew_; clear hg_ hnew_; (first | rw [← Ny180.out] at ho5 | (simp only [Int.reduceToNat] at ho5; rw [← Ny180.out] at ho5)); have HO182 := am_ (Kd.S_lower ho5 (al (bw_ HB))); replace HB := bs_ HB hb; clear hb ho5))
 go_loopg [4] k (fun kq v4 w' => ∃ (x3_1 : List (S50)) (x4_1 : Int), v4 = .int .i64 x4_1 ∧ aa (bW.l0 kq l0 x3_1 x4_1 = some r) ∧ aa (kq ≤ k) ∧ aa (Kd.S k50 50 w' w.heap.size (fun _ => True) v181 x3_1) ∧ aa (Below w.heap.size w w'))
 case atStart => exact ⟨(y180), (0), u1_, H', ⟨Nat.le_refl _⟩, ⟨aS_ HO182.out⟩, ⟨bw_ HB⟩⟩
 case round =>
  clear H'; try clear c2b0
  try clear c2b1
  try clear c3b0
  try clear c3b1
  obtain ⟨x3_1, x4_1, rfl, HA, HK1, HO_3, HB⟩ := hrel; cases gk with
  | zero => exact absurd HA.out (by simp [bW.l0])
  | succ k1 =>
   have H := HA.out; clear HA; simp only [bW.l0] at H; by_cases c6 : x4_1 < (l0.length : Int)
   ·rw [if_pos c6] at H; have c6b0 := decide_eq_true c6; clear c6; obtain ⟨c7b0, H⟩ := gd_ H; obtain ⟨⟨t184, t185⟩, A8, H⟩ := bi_ H; dsimp only at H; obtain ⟨c9b0, H⟩ := gd_ H; generalize hy188 : ((x3_1.set (x4_1 : Int).toNat (⟨t184, t185⟩ : S50)) : List (S50)) = y188 at H; have Ny188 := am_ hy188.symm; clear hy188; have H' := am_ H; clear H; obtain ⟨ad183, A183_1, c183_1, e183, hx183_0, hx183_1, hl183_1, hi183_1⟩ := o6 HR0.out x4_1 od_ od_; cases e183; replace hx183_0 := cb_ HB hx183_0; replace hx183_1 := cb_ HB hx183_1; have HR183_1 := am_ hi183_1; have HC183_1 := am_ hl183_1; clear hi183_1 hl183_1; obtain ⟨p183, q183⟩ := pt_ x4_1 l0.length; go_wp2_with (first | ((with_reducible refine gt_ 20 ?_); refine gf_ 20 Tryz.func165 (d9.calls k1 ((dC l0 x4_1).f0) _ _ ((dC l0 x4_1).f1) t184 t185 _ (kc_ HR183_1 HB) HC183_1.out A8.out) ?_; rintro e w11 ⟨v186, rfl, ho0, hb⟩; refine ⟨_, rfl, ?_⟩; replace HO_3 := am_ (Kd.S_elder' (aS_ HO_3.out) (Kd.R_base ho0) hb); have HO187 := am_ (Kd.R_lower ho0 (al (bw_ HB))); replace HB := bs_ HB hb; (try clear hb); (try clear ho0); have p10 : 0 ≤ (x4_1 : Int) := od_; have q10 : (x4_1 : Int) < ((x3_1.length : Int) : Int) := od_; obtain ⟨go10, co10, eo10, gb10, gl10, cl10, HG10⟩ := Kd.S_form HO_3.out u7_; (first | cases eo10 | (injection eo10 with ea_ en_ ec_; (first | subst ea_ | (injection ea_ with ea_; subst ea_)); subst ec_; clear en_)); have GB10 := am_ gb10; have GG10 := am_ HG10; clear gb10 gl10 HG10; obtain ⟨_, ce10, hcl10, hM10, hcc10, hfr10, _, _⟩ := Kd.S_elem HO_3.out z50 (x4_1 : Int) p10 q10; obtain ⟨ve10_1, rfl, ge10_1⟩ := gW hM10; have hx10_0 : w11.cell? ⟨go10, (x4_1 : Int).toNat * 2, none⟩ = some (.int .i64 ((bb x3_1 x4_1).f0)) := hcc10 0 _ rfl; have hx10_1 : w11.cell? ⟨go10, (x4_1 : Int).toNat * 2 + 1, none⟩ = some (ve10_1) := hcc10 1 _ rfl; have hf10_0 : w11.frozen? ⟨go10, (x4_1 : Int).toNat * 2, none⟩ = false := hfr10 0; have hf10_1 : w11.frozen? ⟨go10, (x4_1 : Int).toNat * 2 + 1, none⟩ = false := hfr10 1; clear hcl10 hcc10 hfr10 hM10; obtain ⟨p10, q10⟩ := tt_ p10 q10; have n_ := am_ (Kd.S_mono (ok' := (fun k_ => some k_ ≠ (v186 : Value).ownBlock)) HO_3.out (fun k_ hk => hk.2)); clear HO_3; have HO_3 := n_; clear n_; have HX12 := am_ (show Kd.S k50 50 w11 w.heap.size (fun k_ => ((fun _ => True)) k_ ∧ ¬ ((fun k_ => some k_ = (v186 : Value).ownBlock)) k_) (.slice (some ⟨go10, 0, none⟩) x3_1.length co10) x3_1 from u68_); obtain ⟨oki12, ce12, hcl12, hM12, hcc12, hfr12, hoki12, hH12⟩ := Kd.S_elem HX12.out z50 (x4_1 : Int) (od_) (by have h_ : (x4_1 : Int) < ((x3_1.length : Int) : Int) := od_; first | exact h_ | (have e_ := (Kd.S_reads' HO_3.out).1; omega) | simpa using h_); obtain ⟨ve12_1, rfl, ge12_1⟩ := gW hM12; have HP12 := Kd.S_seg hH12 (od_) (by have h_ : (x4_1 : Int) < ((x3_1.length : Int) : Int) := od_; first | exact h_ | (have e_ := (Kd.S_reads' HO_3.out).1; omega) | simpa using h_) (seg := [.int .i64 t184, v186]) (j := 0) (show 2 ≤ 2 from aC) (x' := (⟨t184, t185⟩ : S50)) (iL _ _ _ (⟨t184, t185⟩ : S50) (Kd.R_mono (Kd.R_tight rfl (Kd.R_mono (ok' := fun k_ => ((fun _ => True)) k_ ∧ k_ ≠ go10) (Kd.R_apart' (HO187.out) (Kd.S_typed HO_3.out) aC) (fun k_ hk => ⟨trivial, fun e_ => (hk.2) (by rw [e_]; rfl)⟩))) (fun _ h_ => Or.inr (h_)))) (fun _ hk => hk) (fun k_ hk_ => ((Kd.R_mono (ok' := fun k_ => ((fun _ => True)) k_ ∧ k_ ≠ go10) (Kd.R_apart' (HO187.out) (Kd.S_typed HO_3.out) aC) (fun k_ hk => ⟨trivial, fun e_ => (hk.2) (by rw [e_]; rfl)⟩))).1 k_ hk_.symm); have hx12_0 := hcc12 0 _ rfl; (try simp only [show (k50).sz = 2 from rfl, Nat.mul_one, Nat.add_zero] at hx12_0); have hf12_0 := hfr12 0; (try simp only [show (k50).sz = 2 from rfl, Nat.mul_one, Nat.add_zero] at hf12_0); have hx12_1 := hcc12 1 _ rfl; (try simp only [show (k50).sz = 2 from rfl, Nat.mul_one, Nat.add_zero] at hx12_1); have hf12_1 := hfr12 1; (try simp only [show (k50).sz = 2 from rfl, Nat.mul_one, Nat.add_zero] at hf12_1); clear hcl12 hcc12 hfr12 hM12 hoki12 hH12) | ((with_reducible refine ee (t := 50) (p := 21) rfl ?_); refine dI (t := 50) (p := 21) (v := ?vo_w13) (w1 := ((w11.setCell ⟨go10, (x4_1 : Int).toNat * 2, none⟩ (.int .i64 t184)).setCell ⟨go10, (x4_1 : Int).toNat * 2 + 1, none⟩ (v186))) ?hg ?ho ?hn ?hr ?_; (case ho => rfl); (case hg => rfl); (case hn => rfl); (case hr => first | (go_simp; done) | (go_simp; rfl) | (obtain ⟨_, _, e_⟩ := Kd.R_slice HO187.out; subst e_; first | (go_simp; done) | (go_simp; rfl))); intro w13 hw; have hg : w11.grownBy w13 (some go10) := (by rw [hw]; exact HP12.2); have hp_ : Kd.S k50 50 w13 w.heap.size (fun _ => True) (.slice (some ⟨go10, 0, none⟩) x3_1.length co10) y188 := (by rw [hw, Ny188.out]; exact HP12.1); clear HP12; replace HO_3 := am_ (hp_); replace HB := am_ ((by rw [hw]; exact bf (bf (HB.out) GB10.out) GB10.out : Below w.heap.size w w13)); clear HO187 hg hw hp_))
    go_roundg k1
    case measure => have := HK1.out; omega
    case rel => exact ⟨(y188), (wrap64 (x4_1 + 1)), u1_, H', ⟨dm⟩, ⟨aS_ HO_3.out⟩, ⟨bw_ HB⟩⟩
   ·rw [if_neg c6] at H; have c6b0 := decide_eq_false c6; clear c6; obtain rfl := si_ H; go_wp2; go_ret
    exact ⟨_, u0_, aS_ HO_3.out, bw_ HB⟩
def dP.f (k : Nat) (a0_0 : ByteArray) (a0_1 : ByteArray) (l0_2 : List (eC)) : Option (ByteArray × ByteArray × (List (S50))) := (bW.f k l0_2).bind fun t192 => (some (a0_0, a0_1, t192))
theorem dP.calls (k : Nat) (a0_0 : ByteArray) (a0_1 : ByteArray) (A0_2 : Option Addr) (c0_2 : Nat) (l0_2 : List (eC)) (r1 : ByteArray) (r2 : ByteArray) (r3 : List (S50)) (w : World) (hr0_2 : Kd.C lq w A0_2 l0_2.length l0_2) (hc0_2 : l0_2.length ≤ c0_2) (h : dP.f k a0_0 a0_1 l0_2 = some (r1, r2, r3)) :
  Calls Tryz.prog 107 #[.agg #[.string a0_0, .string a0_1, .slice A0_2 l0_2.length c0_2]] w fun e w' => ∃ v2_ : Value, e = .returned (.agg #[.string r1, .string r2, v2_]) ∧ Kd.S k50 50 w' w.heap.size (fun _ => True) v2_ r3 ∧ Below w.heap.size w w' := by
 have hu137 := Tryz.underlying137; have hu76 := Tryz.underlying76; have HR0_2 := am_ hr0_2; have HC0_2 := am_ hc0_2; clear hr0_2 hc0_2; have HB := am_ (Below.refl w.heap.size w); have H := h; clear h; unfold dP.f at H
 obtain ⟨t192, A2, H⟩ := bi_ H; simp only [Option.some.injEq, Prod.mk.injEq] at H; obtain ⟨rfl, rfl, rfl⟩ := H; go_enter Tryz.func107, Tryz.ntmps107
 go_wp2_with (first | ((with_reducible refine gt_ 1 ?_); refine bx_ 1 #[.string a0_0, .string a0_1, .slice A0_2 l0_2.length c0_2] 137 ?_; intro gb189 hg w3 hbox hb; have BK189 := am_ (hbox); have GE189 := gw_ HB hg; replace HB := bs_ HB hb; clear hb hbox hg) | ((with_reducible refine gt_ 2 ?_); refine bx_ 2 #[.string (⟨#[]⟩ : ByteArray), .string (⟨#[]⟩ : ByteArray), .slice none 0 0] 76 ?_; intro gb190 hg w4 hbox hb; have BK190 := am_ (hbox); have GE190 := gw_ HB hg; replace HB := bs_ HB hb; have NB189_190 := nl_ BK189 hg; have NB190_189 := ng_ BK189 hg; replace BK189 := bb_ BK189 hb; clear hb hbox hg) | ((with_reducible refine gt_ 3 ?_); refine bx_ 3 #[.string (⟨#[]⟩ : ByteArray), .string (⟨#[]⟩ : ByteArray), .slice none 0 0] 76 ?_; intro gb191 hg w5 hbox hb; have BK191 := am_ (hbox); have GE191 := gw_ HB hg; replace HB := bs_ HB hb; have NB189_191 := nl_ BK189 hg; have NB191_189 := ng_ BK189 hg; replace BK189 := bb_ BK189 hb; have NB190_191 := nl_ BK190 hg; have NB191_190 := ng_ BK190 hg; replace BK190 := bb_ BK190 hb; clear hb hbox hg; have hnb6 := NB189_190.out; have hnc6 := NB190_189.out; have hnb7 := NB189_191.out; have hnc7 := NB191_189.out; obtain ⟨hcz8_0, hcz8_1, hcz8_2, hfz8_0, hfz8_1, hfz8_2⟩ := bR BK189.out; have hnb9 := NB191_190.out; have hnc9 := NB190_191.out; obtain ⟨hcz10_0, hcz10_1, hcz10_2, hfz10_0, hfz10_1, hfz10_2⟩ := bR BK191.out) | ((with_reducible refine gt_ 12 ?_); refine gf_ 12 Tryz.func146 (bW.calls k _ _ l0_2 t192 _ (kc_ HR0_2 HB) HC0_2.out A2.out) ?_; rintro e w11 ⟨v193, rfl, ho0, hb⟩; refine ⟨_, rfl, ?_⟩; have HO194 := am_ (Kd.S_lower ho0 (al (bw_ HB))); replace BK190 := bb_ BK190 hb; replace BK191 := am_ (bh (g := gb191) (o := .cells #[.string a0_0, .string a0_1, .slice none 0 0] 76 (0, 0)) (pb_ BK191) hb); replace HB := bs_ HB hb; (try clear hb); (try clear ho0); obtain ⟨Ao12, co12, eo12⟩ := Kd.S_slice HO194.out; subst eo12; obtain ⟨hcz13_0, hcz13_1, hcz13_2, hfz13_0, hfz13_1, hfz13_2⟩ := bR BK191.out; obtain ⟨hcz14_0, hcz14_1, hcz14_2, hfz14_0, hfz14_1, hfz14_2⟩ := bR BK190.out))
 refine bodyPost_ret (results_cell_row rfl _ _ gb190 76 #[.string a0_0, .string a0_1, .slice Ao12 t192.length co12] (0, 0) _ rfl (pb_ BK190) Tryz.underlying76 rfl bY) rfl ?_; exact ⟨_, u0_, by (with_reducible repeat (first | apply Kd.S_alloc | apply Kd.S_drewN | apply Kd.S_drew)); exact Kd.S_mono (Kd.S_far (p := ⟨gb190, 2, none⟩) (Kd.S_far (p := ⟨gb190, 1, none⟩) (Kd.S_far (p := ⟨gb190, 0, none⟩) (Kd.S_far (p := ⟨gb191, 2, none⟩) (Kd.S_types (Kd.S_types HO194.out BK191.out aC) BK190.out aC) (fun _ hk => hk.1.2) (.slice Ao12 t192.length co12)) (fun _ hk => hk.2) (.string a0_0)) (fun _ hk => hk.2) (.string a0_1)) (fun _ hk => hk.2) (.slice Ao12 t192.length co12)) (fun _ hk => trivial), bw_ HB⟩
def bF.l0 : Nat → List (dQ) → List (S76) → Int → Option ((List (S76)))
 | 0, _, _, _ => none
 | k + 1, x0, x3, x4 => if x4 < (x0.length : Int) then (if 0 ≤ x4 then ((dP.f k ((cY x0 x4).f0) ((cY x0 x4).f1) ((cY x0 x4).f2)).bind fun bt199 => (if x4 < (x3.length : Int) then (bF.l0 k x0 (x3.set (x4 : Int).toNat (⟨bt199.1, bt199.2.1, bt199.2.2⟩ : S76)) (wrap64 (x4 + 1))) else (none))) else (none)) else (some x3)
def bF.f (k : Nat) (l0 : List (dQ)) : Option ((List (S76))) := if 0 ≤ (l0.length : Int) then (if ((l0.length : Int) : Int).toNat ≤ 5026338869833 then (bF.l0 k l0 (List.replicate ((l0.length : Int) : Int).toNat z76) 0) else (none)) else (none)
theorem bF.calls (k : Nat) (A0 : Option Addr) (c0 : Nat) (l0 : List (dQ)) (r : List (S76)) (w : World) (hr0 : Kd.C ny w A0 l0.length l0) (hc0 : l0.length ≤ c0) (h : bF.f k l0 = some r) :
  Calls Tryz.prog 62 #[.slice A0 l0.length c0] w fun e w' => ∃ v0_ : Value, e = .returned (v0_) ∧ Kd.R k76 76 w' w.heap.size (fun _ => True) v0_ r ∧ Below w.heap.size w w' := by
 have hu137 := Tryz.underlying137; have hu76 := Tryz.underlying76; have HR0 := am_ hr0; have HC0 := am_ hc0; clear hr0 hc0; have HB := am_ (Below.refl w.heap.size w); have H := h; clear h; unfold bF.f at H
 obtain ⟨c2b0, c2b1, H⟩ := ge_ H; obtain ⟨c3b0, c3b1, H⟩ := ge_ H; generalize hy195 : ((List.replicate ((l0.length : Int) : Int).toNat z76) : List (S76)) = y195 at H; have Ny195 := am_ hy195.symm; clear hy195; have H' := am_ H; clear H; go_enter Tryz.func62, Tryz.ntmps62
 go_wp2_with (first | ((with_reducible refine aE (N := 7) rfl ?_); refine Kd.R_make k76 _ 76 rfl (N := 7) rfl 25 _ _ rfl (l0.length : Int) rfl rfl Tryz.underlying25 (.agg #[(.string ⟨#[]⟩), (.string ⟨#[]⟩), (.slice none 0 0)]) 56 jc rfl aC u7_ z76 (ok := fun _ => True) (okp := fun _ => True) (j3 _ _ _ z76 (Kd.R_nil _ _ _ _ _)) (fun _ hk => hk) trivial (od_) (Nat.le_trans (Nat.mul_le_mul_right _ (od_ : (l0.length : Int).toNat ≤ 5026338869833)) u7_) (Below.refl _ _) (Nat.le_refl _) ?_; intro v196 w4 ho5 hb hg_ hnew_; clear hg_ hnew_; (first | rw [← Ny195.out] at ho5 | (simp only [Int.reduceToNat] at ho5; rw [← Ny195.out] at ho5)); have HO197 := am_ (Kd.R_lower ho5 (al (bw_ HB))); replace HB := bs_ HB hb; clear hb ho5))
 go_loopg [4] k (fun kq v4 w' => ∃ (x3_1 : List (S76)) (x4_1 : Int), v4 = .int .i64 x4_1 ∧ aa (bF.l0 kq l0 x3_1 x4_1 = some r) ∧ aa (kq ≤ k) ∧ aa (Kd.R k76 76 w' w.heap.size (fun _ => True) v196 x3_1) ∧ aa (Below w.heap.size w w'))
 case atStart => exact ⟨(y195), (0), u1_, H', ⟨Nat.le_refl _⟩, ⟨aR_ HO197.out⟩, ⟨bw_ HB⟩⟩
 case round =>
  clear H'; try clear c2b0
  try clear c2b1
  try clear c3b0
  try clear c3b1
  obtain ⟨x3_1, x4_1, rfl, HA, HK1, HO_3, HB⟩ := hrel; cases gk with
  | zero => exact absurd HA.out (by simp [bF.l0])
  | succ k1 =>
   have H := HA.out; clear HA; simp only [bF.l0] at H; by_cases c6 : x4_1 < (l0.length : Int)
   ·rw [if_pos c6] at H; have c6b0 := decide_eq_true c6; clear c6; obtain ⟨c7b0, H⟩ := gd_ H; obtain ⟨⟨t199, t200, t201⟩, A8, H⟩ := bi_ H; dsimp only at H; obtain ⟨c9b0, H⟩ := gd_ H; generalize hy204 : ((x3_1.set (x4_1 : Int).toNat (⟨t199, t200, t201⟩ : S76)) : List (S76)) = y204 at H; have Ny204 := am_ hy204.symm; clear hy204; have H' := am_ H; clear H; obtain ⟨ad198, A198_2, c198_2, e198, hx198_0, hx198_1, hx198_2, hl198_2, hi198_2⟩ := pq HR0.out x4_1 od_ od_; cases e198; replace hx198_0 := cb_ HB hx198_0; replace hx198_1 := cb_ HB hx198_1; replace hx198_2 := cb_ HB hx198_2; have HR198_2 := am_ hi198_2; have HC198_2 := am_ hl198_2; clear hi198_2 hl198_2; obtain ⟨p198, q198⟩ := pt_ x4_1 l0.length; go_wp2_with (first | ((with_reducible refine gt_ 20 ?_); refine gf_ 20 Tryz.func107 (dP.calls k1 ((cY l0 x4_1).f0) ((cY l0 x4_1).f1) _ _ ((cY l0 x4_1).f2) t199 t200 t201 _ (kc_ HR198_2 HB) HC198_2.out A8.out) ?_; rintro e w11 ⟨v202, rfl, ho0, hb⟩; refine ⟨_, rfl, ?_⟩; replace HO_3 := am_ (Kd.R_elder' (aR_ HO_3.out) (Kd.S_base ho0) hb); have HO203 := am_ (Kd.S_lower ho0 (al (bw_ HB))); replace HB := bs_ HB hb; (try clear hb); (try clear ho0); have p10 : 0 ≤ (x4_1 : Int) := od_; have q10 : (x4_1 : Int) < ((x3_1.length : Int) : Int) := od_; obtain ⟨go10, co10, eo10, gb10, gl10, cl10, HG10⟩ := Kd.R_form HO_3.out u7_; (first | cases eo10 | (injection eo10 with ea_ en_ ec_; (first | subst ea_ | (injection ea_ with ea_; subst ea_)); subst ec_; clear en_)); have GB10 := am_ gb10; have GG10 := am_ HG10; clear gb10 gl10 HG10; obtain ⟨ce10, hcl10, hM10, hcc10, hfr10⟩ := Kd.R_elem HO_3.out z76 (x4_1 : Int) p10 q10; obtain ⟨ve10_2, rfl, ge10_2⟩ := gV hM10; have hx10_0 : w11.cell? ⟨go10, (x4_1 : Int).toNat * 3, none⟩ = some (.string ((aq x3_1 x4_1).f0)) := hcc10 0 _ rfl; have hx10_1 : w11.cell? ⟨go10, (x4_1 : Int).toNat * 3 + 1, none⟩ = some (.string ((aq x3_1 x4_1).f1)) := hcc10 1 _ rfl; have hx10_2 : w11.cell? ⟨go10, (x4_1 : Int).toNat * 3 + 2, none⟩ = some (ve10_2) := hcc10 2 _ rfl; have hf10_0 : w11.frozen? ⟨go10, (x4_1 : Int).toNat * 3, none⟩ = false := hfr10 0; have hf10_1 : w11.frozen? ⟨go10, (x4_1 : Int).toNat * 3 + 1, none⟩ = false := hfr10 1; have hf10_2 : w11.frozen? ⟨go10, (x4_1 : Int).toNat * 3 + 2, none⟩ = false := hfr10 2; clear hcl10 hcc10 hfr10 hM10; obtain ⟨p10, q10⟩ := tt_ p10 q10; have n_ := am_ (Kd.R_mono (ok' := (fun k_ => some k_ ≠ (v202 : Value).ownBlock)) HO_3.out (fun k_ hk => hk.2)); clear HO_3; have HO_3 := n_; clear n_; have HX12 := am_ (show Kd.R k76 76 w11 w.heap.size (fun _ => True) (.slice (some ⟨go10, 0, none⟩) x3_1.length co10) x3_1 from (by (with_reducible repeat (first | apply Kd.R_alloc | apply Kd.R_drewN | apply Kd.R_drew)); exact Kd.R_mono HO_3.out (fun _ hk => trivial))); obtain ⟨ce12, hcl12, hM12, hcc12, hfr12⟩ := Kd.R_elem HX12.out z76 (x4_1 : Int) (od_) (by have h_ : (x4_1 : Int) < ((x3_1.length : Int) : Int) := od_; first | exact h_ | (have e_ := (Kd.R_reads' HO_3.out).1; omega) | simpa using h_); obtain ⟨ve12_2, rfl, ge12_2⟩ := gV hM12; have HP12 := Kd.R_seg HX12.out (x4_1 : Int) (od_) (by have h_ : (x4_1 : Int) < ((x3_1.length : Int) : Int) := od_; first | exact h_ | (have e_ := (Kd.R_reads' HO_3.out).1; omega) | simpa using h_) (seg := [.string t199, .string t200, v202]) (j := 0) hcl12 hcc12 (show 3 ≤ 3 from aC) (x' := (⟨t199, t200, t201⟩ : S76)) (j3 _ _ _ (⟨t199, t200, t201⟩ : S76) (Kd.R_mono (Kd.R_apart' ((Kd.S_R HO203.out)) (Kd.R_typed HO_3.out) aC) (fun k_ hk => ⟨trivial, fun e_ => (hk.2) (by rw [e_]; rfl)⟩))) (fun _ hk => hk); have hx12_0 := hcc12 0 _ rfl; (try simp only [show (k76).sz = 3 from rfl, Nat.mul_one, Nat.add_zero] at hx12_0); have hf12_0 := hfr12 0; (try simp only [show (k76).sz = 3 from rfl, Nat.mul_one, Nat.add_zero] at hf12_0); have hx12_1 := hcc12 1 _ rfl; (try simp only [show (k76).sz = 3 from rfl, Nat.mul_one, Nat.add_zero] at hx12_1); have hf12_1 := hfr12 1; (try simp only [show (k76).sz = 3 from rfl, Nat.mul_one, Nat.add_zero] at hf12_1); have hx12_2 := hcc12 2 _ rfl; (try simp only [show (k76).sz = 3 from rfl, Nat.mul_one, Nat.add_zero] at hx12_2); have hf12_2 := hfr12 2; (try simp only [show (k76).sz = 3 from rfl, Nat.mul_one, Nat.add_zero] at hf12_2); clear hcl12 hcc12 hfr12 hM12) | ((with_reducible refine ee (t := 76) (p := 21) rfl ?_); refine dI (t := 76) (p := 21) (v := ?vo_w13) (w1 := (((w11.setCell ⟨go10, (x4_1 : Int).toNat * 3, none⟩ (.string t199)).setCell ⟨go10, (x4_1 : Int).toNat * 3 + 1, none⟩ (.string t200)).setCell ⟨go10, (x4_1 : Int).toNat * 3 + 2, none⟩ (v202))) ?hg ?ho ?hn ?hr ?_; (case ho => rfl); (case hg => rfl); (case hn => rfl); (case hr => first | (go_simp; done) | (go_simp; rfl) | (obtain ⟨_, _, e_⟩ := Kd.S_slice HO203.out; subst e_; first | (go_simp; done) | (go_simp; rfl))); intro w13 hw; have hg : w11.grownBy w13 (some go10) := (by rw [hw]; exact HP12.2); have hp_ : Kd.R k76 76 w13 w.heap.size (fun _ => True) (.slice (some ⟨go10, 0, none⟩) x3_1.length co10) y204 := (by rw [hw, Ny204.out]; exact HP12.1); clear HP12; replace HO_3 := am_ (hp_); replace HB := am_ ((by rw [hw]; exact bf (bf (bf (HB.out) GB10.out) GB10.out) GB10.out : Below w.heap.size w w13)); clear HO203 hg hw hp_))
    go_roundg k1
    case measure => have := HK1.out; omega
    case rel => exact ⟨(y204), (wrap64 (x4_1 + 1)), u1_, H', ⟨dm⟩, ⟨aR_ HO_3.out⟩, ⟨bw_ HB⟩⟩
   ·rw [if_neg c6] at H; have c6b0 := decide_eq_false c6; clear c6; obtain rfl := si_ H; go_wp2; go_ret
    exact ⟨_, u0_, aR_ HO_3.out, bw_ HB⟩
def cE.f (k : Nat) (l0_0 : List (dU)) (l0_1 : List (dS)) (l0_2 : List (dQ)) (a0_3 : Int) : Option ((List (S92)) × (List (S46)) × (List (S76)) × Int) := (bE.f k l0_0).bind fun t208 => ((cg.f k l0_1).bind fun t211 => ((bF.f k l0_2).bind fun t214 => (some (t208, t211, t214, a0_3))))
theorem cE.calls (k : Nat) (A0_0 : Option Addr) (c0_0 : Nat) (l0_0 : List (dU)) (A0_1 : Option Addr) (c0_1 : Nat) (l0_1 : List (dS)) (A0_2 : Option Addr) (c0_2 : Nat) (l0_2 : List (dQ)) (a0_3 : Int) (r1 : List (S92)) (r2 : List (S46)) (r3 : List (S76)) (r4 : Int) (w : World) (hr0_0 : Kd.C nH w A0_0 l0_0.length l0_0) (hc0_0 : l0_0.length ≤ c0_0) (hr0_1 : Kd.C nc w A0_1 l0_1.length l0_1) (hc0_1 : l0_1.length ≤ c0_1) (hr0_2 : Kd.C ny w A0_2 l0_2.length l0_2) (hc0_2 : l0_2.length ≤ c0_2) (h : cE.f k l0_0 l0_1 l0_2 a0_3 = some (r1, r2, r3, r4)) :
  Calls Tryz.prog 24 #[.agg #[.slice A0_0 l0_0.length c0_0, .slice A0_1 l0_1.length c0_1, .slice A0_2 l0_2.length c0_2, .int .i64 a0_3]] w fun e w' => ∃ v0_ v1_ v2_ : Value, e = .returned (.agg #[v0_, v1_, v2_, .int .i64 r4]) ∧ Kd.R k92 92 w' w.heap.size (fun _ => True) v0_ r1 ∧ Kd.S k46 46 w' w.heap.size (fun _ => True) v1_ r2 ∧ Kd.R k76 76 w' w.heap.size (fun _ => True) v2_ r3 ∧ Below w.heap.size w w' := by
 have hu56 := Tryz.underlying56; have hu27 := Tryz.underlying27; have HR0_0 := am_ hr0_0; have HC0_0 := am_ hc0_0; clear hr0_0 hc0_0; have HR0_1 := am_ hr0_1; have HC0_1 := am_ hc0_1; clear hr0_1 hc0_1; have HR0_2 := am_ hr0_2; have HC0_2 := am_ hc0_2; clear hr0_2 hc0_2; have HB := am_ (Below.refl w.heap.size w); have H := h; clear h; unfold cE.f at H
 obtain ⟨t208, A2, H⟩ := bi_ H; obtain ⟨t211, A3, H⟩ := bi_ H; obtain ⟨t214, A4, H⟩ := bi_ H; simp only [Option.some.injEq, Prod.mk.injEq] at H; obtain ⟨rfl, rfl, rfl, rfl⟩ := H; go_enter Tryz.func24, Tryz.ntmps24
 go_wp2_with (first | ((with_reducible refine gt_ 1 ?_); refine bx_ 1 #[.slice A0_0 l0_0.length c0_0, .slice A0_1 l0_1.length c0_1, .slice A0_2 l0_2.length c0_2, .int .i64 a0_3] 56 ?_; intro gb205 hg w5 hbox hb; have BK205 := am_ (hbox); have GE205 := gw_ HB hg; replace HB := bs_ HB hb; clear hb hbox hg) | ((with_reducible refine gt_ 2 ?_); refine bx_ 2 #[.slice none 0 0, .slice none 0 0, .slice none 0 0, .int .i64 0] 27 ?_; intro gb206 hg w6 hbox hb; have BK206 := am_ (hbox); have GE206 := gw_ HB hg; replace HB := bs_ HB hb; have NB205_206 := nl_ BK205 hg; have NB206_205 := ng_ BK205 hg; replace BK205 := bb_ BK205 hb; clear hb hbox hg) | ((with_reducible refine gt_ 3 ?_); refine bx_ 3 #[.slice none 0 0, .slice none 0 0, .slice none 0 0, .int .i64 0] 27 ?_; intro gb207 hg w7 hbox hb; have BK207 := am_ (hbox); have GE207 := gw_ HB hg; replace HB := bs_ HB hb; have NB205_207 := nl_ BK205 hg; have NB207_205 := ng_ BK205 hg; replace BK205 := bb_ BK205 hb; have NB206_207 := nl_ BK206 hg; have NB207_206 := ng_ BK206 hg; replace BK206 := bb_ BK206 hb; clear hb hbox hg; have hnb8 := NB205_206.out; have hnc8 := NB206_205.out; have hnb9 := NB205_207.out; have hnc9 := NB207_205.out; obtain ⟨hcz10_0, hcz10_1, hcz10_2, hcz10_3, hfz10_0, hfz10_1, hfz10_2, hfz10_3⟩ := cu BK205.out) | ((with_reducible refine gt_ 6 ?_); refine gf_ 6 Tryz.func60 (bE.calls k _ _ l0_0 t208 _ (kc_ HR0_0 HB) HC0_0.out A2.out) ?_; rintro e w11 ⟨v209, rfl, ho0, hb⟩; refine ⟨_, rfl, ?_⟩; have HO210 := am_ (Kd.R_lower ho0 (al (bw_ HB))); replace BK205 := bb_ BK205 hb; replace BK206 := bb_ BK206 hb; replace BK207 := bb_ BK207 hb; replace HB := bs_ HB hb; (try clear hb); (try clear ho0); obtain ⟨Ao12, co12, eo12⟩ := Kd.R_slice HO210.out; subst eo12; have hnb13 := NB207_206.out; have hnc13 := NB206_207.out; obtain ⟨hcz14_0, hcz14_1, hcz14_2, hcz14_3, hfz14_0, hfz14_1, hfz14_2, hfz14_3⟩ := cu BK207.out; obtain ⟨hcz15_0, hcz15_1, hcz15_2, hcz15_3, hfz15_0, hfz15_1, hfz15_2, hfz15_3⟩ := cu BK205.out) | ((with_reducible refine gt_ 10 ?_); refine gf_ 10 Tryz.func61 (cg.calls k _ _ l0_1 t211 _ (kc_ HR0_1 HB) HC0_1.out A3.out) ?_; rintro e w16 ⟨v212, rfl, ho0, hb⟩; refine ⟨_, rfl, ?_⟩; replace HO210 := am_ (Kd.R_below (aR_ (Kd.R_mono (Kd.R_far (p := ⟨gb207, 0, none⟩) (Kd.R_types HO210.out BK207.out aC) (fun _ hk => hk.2) (.slice Ao12 t208.length co12)) (fun _ h_ => h_.1))) hb); have HO213 := am_ (Kd.S_lower ho0 (al (bw_ HB))); replace BK205 := bb_ BK205 hb; replace BK206 := bb_ BK206 hb; replace BK207 := am_ (bh (g := gb207) (o := .cells #[.slice Ao12 t208.length co12, .slice none 0 0, .slice none 0 0, .int .i64 0] 27 (0, 0)) (pb_ BK207) hb); replace HB := bs_ HB hb; (try clear hb); (try clear ho0); obtain ⟨Ao17, co17, eo17⟩ := Kd.S_slice HO213.out; subst eo17; obtain ⟨hcz18_0, hcz18_1, hcz18_2, hcz18_3, hfz18_0, hfz18_1, hfz18_2, hfz18_3⟩ := cu BK207.out; obtain ⟨hcz19_0, hcz19_1, hcz19_2, hcz19_3, hfz19_0, hfz19_1, hfz19_2, hfz19_3⟩ := cu BK205.out) | ((with_reducible refine gt_ 14 ?_); refine gf_ 14 Tryz.func62 (bF.calls k _ _ l0_2 t214 _ (kc_ HR0_2 HB) HC0_2.out A4.out) ?_; rintro e w20 ⟨v215, rfl, ho0, hb⟩; refine ⟨_, rfl, ?_⟩; replace HO210 := am_ (Kd.R_below (aR_ (Kd.R_mono (Kd.R_far (p := ⟨gb207, 1, none⟩) (Kd.R_types HO210.out BK207.out aC) (fun _ hk => hk.2) (.slice Ao17 t211.length co17)) (fun _ h_ => h_.1))) hb); replace HO213 := am_ (Kd.S_below (aS_ (Kd.S_mono (Kd.S_far (p := ⟨gb207, 1, none⟩) (Kd.S_types HO213.out BK207.out aC) (fun _ hk => hk.2) (.slice Ao17 t211.length co17)) (fun _ h_ => h_.1))) hb); have HO216 := am_ (Kd.R_lower ho0 (al (bw_ HB))); replace BK205 := bb_ BK205 hb; replace BK206 := bb_ BK206 hb; replace BK207 := am_ (bh (g := gb207) (o := .cells #[.slice Ao12 t208.length co12, .slice Ao17 t211.length co17, .slice none 0 0, .int .i64 0] 27 (0, 0)) (pb_ BK207) hb); replace HB := bs_ HB hb; (try clear hb); (try clear ho0); obtain ⟨Ao21, co21, eo21⟩ := Kd.R_slice HO216.out; subst eo21; obtain ⟨hcz22_0, hcz22_1, hcz22_2, hcz22_3, hfz22_0, hfz22_1, hfz22_2, hfz22_3⟩ := cu BK207.out; obtain ⟨hcz23_0, hcz23_1, hcz23_2, hcz23_3, hfz23_0, hfz23_1, hfz23_2, hfz23_3⟩ := cu BK205.out; obtain ⟨hcz24_0, hcz24_1, hcz24_2, hcz24_3, hfz24_0, hfz24_1, hfz24_2, hfz24_3⟩ := cu BK206.out))
 refine bodyPost_ret (results_cell_row rfl _ _ gb206 27 #[.slice Ao12 t208.length co12, .slice Ao17 t211.length co17, .slice Ao21 t214.length co21, .int .i64 a0_3] (0, 0) _ rfl (pb_ BK206) Tryz.underlying27 rfl bY) rfl ?_; exact ⟨_, _, _, u0_, by (with_reducible repeat (first | apply Kd.R_alloc | apply Kd.R_drewN | apply Kd.R_drew)); exact Kd.R_mono (Kd.R_far (p := ⟨gb206, 3, none⟩) (Kd.R_far (p := ⟨gb206, 2, none⟩) (Kd.R_far (p := ⟨gb206, 1, none⟩) (Kd.R_far (p := ⟨gb206, 0, none⟩) (Kd.R_far (p := ⟨gb207, 3, none⟩) (Kd.R_far (p := ⟨gb207, 2, none⟩) (Kd.R_types (Kd.R_types HO210.out BK207.out aC) BK206.out aC) (fun _ hk => hk.1.2) (.slice Ao21 t214.length co21)) (fun _ hk => hk.1.2) (.int .i64 a0_3)) (fun _ hk => hk.2) (.slice Ao12 t208.length co12)) (fun _ hk => hk.2) (.slice Ao17 t211.length co17)) (fun _ hk => hk.2) (.slice Ao21 t214.length co21)) (fun _ hk => hk.2) (.int .i64 a0_3)) (fun _ hk => trivial), by (with_reducible repeat (first | apply Kd.S_alloc | apply Kd.S_drewN | apply Kd.S_drew)); exact Kd.S_mono (Kd.S_far (p := ⟨gb206, 3, none⟩) (Kd.S_far (p := ⟨gb206, 2, none⟩) (Kd.S_far (p := ⟨gb206, 1, none⟩) (Kd.S_far (p := ⟨gb206, 0, none⟩) (Kd.S_far (p := ⟨gb207, 3, none⟩) (Kd.S_far (p := ⟨gb207, 2, none⟩) (Kd.S_types (Kd.S_types HO213.out BK207.out aC) BK206.out aC) (fun _ hk => hk.1.2) (.slice Ao21 t214.length co21)) (fun _ hk => hk.1.2) (.int .i64 a0_3)) (fun _ hk => hk.2) (.slice Ao12 t208.length co12)) (fun _ hk => hk.2) (.slice Ao17 t211.length co17)) (fun _ hk => hk.2) (.slice Ao21 t214.length co21)) (fun _ hk => hk.2) (.int .i64 a0_3)) (fun _ hk => trivial), by (with_reducible repeat (first | apply Kd.R_alloc | apply Kd.R_drewN | apply Kd.R_drew)); exact Kd.R_mono (Kd.R_far (p := ⟨gb206, 3, none⟩) (Kd.R_far (p := ⟨gb206, 2, none⟩) (Kd.R_far (p := ⟨gb206, 1, none⟩) (Kd.R_far (p := ⟨gb206, 0, none⟩) (Kd.R_far (p := ⟨gb207, 3, none⟩) (Kd.R_far (p := ⟨gb207, 2, none⟩) (Kd.R_types (Kd.R_types HO216.out BK207.out aC) BK206.out aC) (fun _ hk => hk.1.2) (.slice Ao21 t214.length co21)) (fun _ hk => hk.1.2) (.int .i64 a0_3)) (fun _ hk => hk.2) (.slice Ao12 t208.length co12)) (fun _ hk => hk.2) (.slice Ao17 t211.length co17)) (fun _ hk => hk.2) (.slice Ao21 t214.length co21)) (fun _ hk => hk.2) (.int .i64 a0_3)) (fun _ hk => trivial), bw_ HB⟩
def dN.f (a0_0 : ByteArray) (a0_1 : Int) (a0_2 : Int) (a1_0 : ByteArray) (a1_1 : Int) (a1_2 : Int) : Option (Bool) := if a0_0.toList = a1_0.toList then (if a0_1 = a1_1 then (if a0_2 = a1_2 then (some true) else (some false)) else (some false)) else (some false)
theorem dN.calls (a0_0 : ByteArray) (a0_1 : Int) (a0_2 : Int) (a1_0 : ByteArray) (a1_1 : Int) (a1_2 : Int) (r : Bool) (w : World) (h : dN.f a0_0 a0_1 a0_2 a1_0 a1_1 a1_2 = some r) :
  Calls Tryz.prog 121 #[.agg #[.string a0_0, .int .i64 a0_1, .int .i64 a0_2], .agg #[.string a1_0, .int .i64 a1_1, .int .i64 a1_2]] w fun e w' => e = .returned (.bool r) ∧ Below w.heap.size w w' := by
 have hu92 := Tryz.underlying92; have HB := am_ (Below.refl w.heap.size w); have H := h; clear h; unfold dN.f at H
 by_cases c3 : a0_0.toList = a1_0.toList
 ·rw [if_pos c3] at H; have c3b0 := cV c3; have c3b1 := cW c3; clear c3; by_cases c4 : a0_1 = a1_1
  ·rw [if_pos c4] at H; have c4b0 := cV c4; have c4b1 := cW c4; clear c4; by_cases c5 : a0_2 = a1_2
   ·rw [if_pos c5] at H; have c5b0 := cV c5; have c5b1 := cW c5; clear c5; obtain rfl := si_ H; go_enter Tryz.func121, Tryz.ntmps121
    go_wp2_with (first | ((with_reducible refine gt_ 2 ?_); refine bx_ 2 #[.string a0_0, .int .i64 a0_1, .int .i64 a0_2] 92 ?_; intro gb217 hg w6 hbox hb; have BK217 := am_ (hbox); have GE217 := gw_ HB hg; replace HB := bs_ HB hb; clear hb hbox hg) | ((with_reducible refine gt_ 3 ?_); refine bx_ 3 #[.string a1_0, .int .i64 a1_1, .int .i64 a1_2] 92 ?_; intro gb218 hg w7 hbox hb; have BK218 := am_ (hbox); have GE218 := gw_ HB hg; replace HB := bs_ HB hb; have NB217_218 := nl_ BK217 hg; have NB218_217 := ng_ BK217 hg; replace BK217 := bb_ BK217 hb; clear hb hbox hg; have hnb8 := NB217_218.out; have hnc8 := NB218_217.out; obtain ⟨hcz9_0, hcz9_1, hcz9_2, hfz9_0, hfz9_1, hfz9_2⟩ := bR BK217.out; obtain ⟨hcz10_0, hcz10_1, hcz10_2, hfz10_0, hfz10_1, hfz10_2⟩ := bR BK218.out))
    go_ret
    exact ⟨u0_, bw_ HB⟩
   ·rw [if_neg c5] at H; have c5b0 := cU c5; have c5b1 := cT c5; obtain rfl := si_ H; go_enter Tryz.func121, Tryz.ntmps121
    go_wp2_with (first | ((with_reducible refine gt_ 2 ?_); refine bx_ 2 #[.string a0_0, .int .i64 a0_1, .int .i64 a0_2] 92 ?_; intro gb217 hg w11 hbox hb; have BK217 := am_ (hbox); have GE217 := gw_ HB hg; replace HB := bs_ HB hb; clear hb hbox hg) | ((with_reducible refine gt_ 3 ?_); refine bx_ 3 #[.string a1_0, .int .i64 a1_1, .int .i64 a1_2] 92 ?_; intro gb218 hg w12 hbox hb; have BK218 := am_ (hbox); have GE218 := gw_ HB hg; replace HB := bs_ HB hb; have NB217_218 := nl_ BK217 hg; have NB218_217 := ng_ BK217 hg; replace BK217 := bb_ BK217 hb; clear hb hbox hg; have hnb13 := NB217_218.out; have hnc13 := NB218_217.out; obtain ⟨hcz14_0, hcz14_1, hcz14_2, hfz14_0, hfz14_1, hfz14_2⟩ := bR BK217.out; obtain ⟨hcz15_0, hcz15_1, hcz15_2, hfz15_0, hfz15_1, hfz15_2⟩ := bR BK218.out))
    go_ret
    exact ⟨u0_, bw_ HB⟩
  ·rw [if_neg c4] at H; have c4b0 := cU c4; have c4b1 := cT c4; obtain rfl := si_ H; go_enter Tryz.func121, Tryz.ntmps121
   go_wp2_with (first | ((with_reducible refine gt_ 2 ?_); refine bx_ 2 #[.string a0_0, .int .i64 a0_1, .int .i64 a0_2] 92 ?_; intro gb217 hg w16 hbox hb; have BK217 := am_ (hbox); have GE217 := gw_ HB hg; replace HB := bs_ HB hb; clear hb hbox hg) | ((with_reducible refine gt_ 3 ?_); refine bx_ 3 #[.string a1_0, .int .i64 a1_1, .int .i64 a1_2] 92 ?_; intro gb218 hg w17 hbox hb; have BK218 := am_ (hbox); have GE218 := gw_ HB hg; replace HB := bs_ HB hb; have NB217_218 := nl_ BK217 hg; have NB218_217 := ng_ BK217 hg; replace BK217 := bb_ BK217 hb; clear hb hbox hg; have hnb18 := NB217_218.out; have hnc18 := NB218_217.out; obtain ⟨hcz19_0, hcz19_1, hcz19_2, hfz19_0, hfz19_1, hfz19_2⟩ := bR BK217.out; obtain ⟨hcz20_0, hcz20_1, hcz20_2, hfz20_0, hfz20_1, hfz20_2⟩ := bR BK218.out))
   go_ret
   exact ⟨u0_, bw_ HB⟩
 ·rw [if_neg c3] at H; have c3b0 := cU c3; have c3b1 := cT c3; obtain rfl := si_ H; go_enter Tryz.func121, Tryz.ntmps121
  go_wp2_with (first | ((with_reducible refine gt_ 2 ?_); refine bx_ 2 #[.string a0_0, .int .i64 a0_1, .int .i64 a0_2] 92 ?_; intro gb217 hg w21 hbox hb; have BK217 := am_ (hbox); have GE217 := gw_ HB hg; replace HB := bs_ HB hb; clear hb hbox hg) | ((with_reducible refine gt_ 3 ?_); refine bx_ 3 #[.string a1_0, .int .i64 a1_1, .int .i64 a1_2] 92 ?_; intro gb218 hg w22 hbox hb; have BK218 := am_ (hbox); have GE218 := gw_ HB hg; replace HB := bs_ HB hb; have NB217_218 := nl_ BK217 hg; have NB218_217 := ng_ BK217 hg; replace BK217 := bb_ BK217 hb; clear hb hbox hg; have hnb23 := NB217_218.out; have hnc23 := NB218_217.out; obtain ⟨hcz24_0, hcz24_1, hcz24_2, hfz24_0, hfz24_1, hfz24_2⟩ := bR BK217.out; obtain ⟨hcz25_0, hcz25_1, hcz25_2, hfz25_0, hfz25_1, hfz25_2⟩ := bR BK218.out))
  go_ret
  exact ⟨u0_, bw_ HB⟩
def aD.l0 : Nat → List (S92) → List (S92) → Int → Option (Bool)
 | 0, _, _, _ => none
 | k + 1, x0, x1, x5 => if x5 < (x0.length : Int) then (if 0 ≤ x5 then (if x5 < (x1.length : Int) then ((dN.f ((ao x0 x5).f0) ((ao x0 x5).f1) ((ao x0 x5).f2) ((ao x1 x5).f0) ((ao x1 x5).f1) ((ao x1 x5).f2)).bind fun t221 => (if t221 = true then (aD.l0 k x0 x1 (wrap64 (x5 + 1))) else (some false))) else (none)) else (none)) else (some true)
def aD.f (k : Nat) (l0 : List (S92)) (l1 : List (S92)) : Option (Bool) := if (l0.length : Int) = (l1.length : Int) then (aD.l0 k l0 l1 0) else (some false)
def aD.T6 : Bool × List (List Nat × List Nat) := (true, [([], []), ([], []), ([0, 1], [0, 1]), ([2], [2]), ([], []), ([], []), ([4, 5], [4, 5]), ([6], [6]), ([3, 7], [3, 7]), ([8], [8])])
def aD.B6 : List Nat := [0, 0, 3, 7, 0, 0, 48, 112, 255, 511]
theorem aD.tab6 : dw .any (fm Tryz.f70 6) = aD.T6 := by kernel_rfl
theorem aD.bits6 : de aD.T6.2 aD.B6 = true := by kernel_rfl
theorem aD.calls (k : Nat) (A0 : Option Addr) (c0 : Nat) (l0 : List (S92)) (A1 : Option Addr) (c1 : Nat) (l1 : List (S92)) (r : Bool) (w : World) (hr0 : Kd.C k92 w A0 l0.length l0) (hc0 : l0.length ≤ c0) (hr1 : Kd.C k92 w A1 l1.length l1) (hc1 : l1.length ≤ c1) (h : aD.f k l0 l1 = some r) :
  Calls Tryz.prog 70 #[.slice A0 l0.length c0, .slice A1 l1.length c1] w fun e w' => e = .returned (.bool r) ∧ Below w.heap.size w w' := by
 have hu92 := Tryz.underlying92; have HR0 := am_ hr0; have HC0 := am_ hc0; clear hr0 hc0; have HR1 := am_ hr1; have HC1 := am_ hc1; clear hr1 hc1; have HB := am_ (Below.refl w.heap.size w); have H := h; clear h; unfold aD.f at H
 by_cases c3 : (l0.length : Int) = (l1.length : Int)
 ·rw [if_pos c3] at H; have c3b0 := cV c3; have c3b1 := cW c3; have c3b2 : (l0.length == l1.length) = true := by first | simpa using c3 | (simp at c3 ⊢; omega)
  clear c3; have H' := am_ H; clear H; go_enter Tryz.func70, Tryz.ntmps70
  go_wp2; go_loopg [5] k (fun kq v5 w' => ∃ (x5_1 : Int), v5 = .int .i64 x5_1 ∧ aa (aD.l0 kq l0 l1 x5_1 = some r) ∧ aa (kq ≤ k) ∧ aa (Below w.heap.size w w'))
  case atStart => exact ⟨(0), u1_, H', ⟨Nat.le_refl _⟩, ⟨bw_ HB⟩⟩
  case round =>
   clear H'; try clear c1
   try clear c3
   try clear c3b0
   try clear c3b1
   try clear c3b2
   obtain ⟨x5_1, rfl, HA, HK1, HB⟩ := hrel; cases gk with
   | zero => exact absurd HA.out (by simp [aD.l0])
   | succ k1 =>
    have H := HA.out; clear HA; simp only [aD.l0] at H; by_cases c4 : x5_1 < (l0.length : Int)
    ·rw [if_pos c4] at H; have c4b0 := decide_eq_true c4; clear c4; obtain ⟨c5b0, H⟩ := gd_ H; obtain ⟨c6b0, H⟩ := gd_ H; obtain ⟨t221, A7, H⟩ := bi_ H; have HC_ := am_ H; clear H; try go_wp2
     replace HB := am_ (aN HB.out); obtain ⟨ad219, e219, hx219_0, hx219_1, hx219_2⟩ := go HR0.out x5_1 od_ od_; have hw219_2 := hx219_2; have hw219_1 := hx219_1; have hw219_0 := hx219_0; cases e219; replace hx219_0 := cb_ HB hx219_0; replace hx219_1 := cb_ HB hx219_1; replace hx219_2 := cb_ HB hx219_2; obtain ⟨p219, q219⟩ := pt_ x5_1 l0.length; obtain ⟨ad220, e220, hx220_0, hx220_1, hx220_2⟩ := go HR1.out x5_1 od_ od_; have hw220_2 := hx220_2; have hw220_1 := hx220_1; have hw220_0 := hx220_0; cases e220; replace hx220_0 := cb_ HB hx220_0; replace hx220_1 := cb_ HB hx220_1; replace hx220_2 := cb_ HB hx220_2; obtain ⟨p220, q220⟩ := pt_ x5_1 l1.length; refine dd (n := 10) (S := fun w' => w'.cell? (ad219.add ((x5_1).toNat * 3)) = some (.string ((ao l0 x5_1).f0)) ∧ w'.cell? ⟨(ad219.add ((x5_1).toNat * 3)).block, (ad219.add ((x5_1).toNat * 3)).off + 1, none⟩ = some (.int .i64 ((ao l0 x5_1).f1)) ∧ w'.cell? ⟨(ad219.add ((x5_1).toNat * 3)).block, (ad219.add ((x5_1).toNat * 3)).off + 2, none⟩ = some (.int .i64 ((ao l0 x5_1).f2)) ∧ w'.cell? (ad220.add ((x5_1).toNat * 3)) = some (.string ((ao l1 x5_1).f0)) ∧ w'.cell? ⟨(ad220.add ((x5_1).toNat * 3)).block, (ad220.add ((x5_1).toNat * 3)).off + 1, none⟩ = some (.int .i64 ((ao l1 x5_1).f1)) ∧ w'.cell? ⟨(ad220.add ((x5_1).toNat * 3)).block, (ad220.add ((x5_1).toNat * 3)).off + 2, none⟩ = some (.int .i64 ((ao l1 x5_1).f2))) (ds := []) (bm_ 10 0) bY rfl rfl ⟨(cc_ HB hw219_0), (cc_ HB hw219_1), (cc_ HB hw219_2), (cc_ HB hw220_0), (cc_ HB hw220_1), (cc_ HB hw220_2)⟩ (fun hHeld => ?_); refine bH aD.tab6 aD.bits6 (fun HT_ HW_ => ?_); generalize wr.drew = w11 at HB hx219_0 hx219_1 hx219_2 hx220_0 hx220_1 hx220_2 hHeld ⊢; refine pv_ 0 17 ?_; refine pv_ 1 18 ?_; refine pv_ 2 19 ?_; refine pv_ 4 21 ?_; refine pv_ 5 22 ?_; refine pv_ 6 23 ?_; refine tv_ 3 20 ?_; refine tv_ 7 24 ?_; refine ov_ 8 25 (fun K hK => ?_); refine oB_ Tryz.func121 (dN.calls ((ao l0 x5_1).f0) ((ao l0 x5_1).f1) ((ao l0 x5_1).f2) ((ao l1 x5_1).f0) ((ao l1 x5_1).f1) ((ao l1 x5_1).f2) t221 _ A7.out) ?_; intro w12 hb; replace HB := bs_ HB hb; (try clear hb)
     refine hK.out _ _ ⟨(cc_ HB hw219_0), (cc_ HB hw219_1), (cc_ HB hw219_2), (cc_ HB hw220_0), (cc_ HB hw220_1), (cc_ HB hw220_2)⟩ (fun hHeld => ?_); clear hK K; refine nm_ ?_; refine pv_ 9 26 ?_; refine dn_ HT_ ?_; have H := HC_.out; clear HC_; cases t221
     ·replace H := hf_ H; obtain rfl := si_ H; try go_wp2
      go_ret
      exact ⟨u0_, bw_ HB⟩
     ·replace H := ht_ H; have H' := am_ H; clear H; try go_wp2
      go_roundg k1
      case measure => have := HK1.out; omega
      case rel => exact ⟨(wrap64 (x5_1 + 1)), u1_, H', ⟨dm⟩, ⟨bw_ HB⟩⟩
    ·rw [if_neg c4] at H; have c4b0 := decide_eq_false c4; clear c4; obtain rfl := si_ H; go_wp2; go_ret
     exact ⟨u0_, bw_ HB⟩
 ·rw [if_neg c3] at H; have c3b0 := cU c3; have c3b1 := cT c3; have c3b2 : (l0.length == l1.length) = false := by first | simpa using c3 | (simp at c3 ⊢; omega)
  obtain rfl := si_ H; go_enter Tryz.func70, Tryz.ntmps70
  go_wp2; go_ret
  exact ⟨u0_, bw_ HB⟩
def ej.f (a0_0 : ByteArray) (a0_1 : ByteArray) (a1_0 : ByteArray) (a1_1 : ByteArray) : Option (Bool) := if a0_0.toList = a1_0.toList then (if a0_1.toList = a1_1.toList then (some true) else (some false)) else (some false)
theorem ej.calls (a0_0 : ByteArray) (a0_1 : ByteArray) (a1_0 : ByteArray) (a1_1 : ByteArray) (r : Bool) (w : World) (h : ej.f a0_0 a0_1 a1_0 a1_1 = some r) :
  Calls Tryz.prog 124 #[.agg #[.string a0_0, .string a0_1], .agg #[.string a1_0, .string a1_1]] w fun e w' => e = .returned (.bool r) ∧ Below w.heap.size w w' := by
 have hu86 := Tryz.underlying86; have HB := am_ (Below.refl w.heap.size w); have H := h; clear h; unfold ej.f at H
 by_cases c3 : a0_0.toList = a1_0.toList
 ·rw [if_pos c3] at H; have c3b0 := cV c3; have c3b1 := cW c3; clear c3; by_cases c4 : a0_1.toList = a1_1.toList
  ·rw [if_pos c4] at H; have c4b0 := cV c4; have c4b1 := cW c4; clear c4; obtain rfl := si_ H; go_enter Tryz.func124, Tryz.ntmps124
   go_wp2_with (first | ((with_reducible refine gt_ 2 ?_); refine bx_ 2 #[.string a0_0, .string a0_1] 86 ?_; intro gb222 hg w5 hbox hb; have BK222 := am_ (hbox); have GE222 := gw_ HB hg; replace HB := bs_ HB hb; clear hb hbox hg) | ((with_reducible refine gt_ 3 ?_); refine bx_ 3 #[.string a1_0, .string a1_1] 86 ?_; intro gb223 hg w6 hbox hb; have BK223 := am_ (hbox); have GE223 := gw_ HB hg; replace HB := bs_ HB hb; have NB222_223 := nl_ BK222 hg; have NB223_222 := ng_ BK222 hg; replace BK222 := bb_ BK222 hb; clear hb hbox hg; have hnb7 := NB222_223.out; have hnc7 := NB223_222.out; obtain ⟨hcz8_0, hcz8_1, hfz8_0, hfz8_1⟩ := bj BK222.out; obtain ⟨hcz9_0, hcz9_1, hfz9_0, hfz9_1⟩ := bj BK223.out))
   go_ret
   exact ⟨u0_, bw_ HB⟩
  ·rw [if_neg c4] at H; have c4b0 := cU c4; have c4b1 := cT c4; obtain rfl := si_ H; go_enter Tryz.func124, Tryz.ntmps124
   go_wp2_with (first | ((with_reducible refine gt_ 2 ?_); refine bx_ 2 #[.string a0_0, .string a0_1] 86 ?_; intro gb222 hg w10 hbox hb; have BK222 := am_ (hbox); have GE222 := gw_ HB hg; replace HB := bs_ HB hb; clear hb hbox hg) | ((with_reducible refine gt_ 3 ?_); refine bx_ 3 #[.string a1_0, .string a1_1] 86 ?_; intro gb223 hg w11 hbox hb; have BK223 := am_ (hbox); have GE223 := gw_ HB hg; replace HB := bs_ HB hb; have NB222_223 := nl_ BK222 hg; have NB223_222 := ng_ BK222 hg; replace BK222 := bb_ BK222 hb; clear hb hbox hg; have hnb12 := NB222_223.out; have hnc12 := NB223_222.out; obtain ⟨hcz13_0, hcz13_1, hfz13_0, hfz13_1⟩ := bj BK222.out; obtain ⟨hcz14_0, hcz14_1, hfz14_0, hfz14_1⟩ := bj BK223.out))
   go_ret
   exact ⟨u0_, bw_ HB⟩
 ·rw [if_neg c3] at H; have c3b0 := cU c3; have c3b1 := cT c3; obtain rfl := si_ H; go_enter Tryz.func124, Tryz.ntmps124
  go_wp2_with (first | ((with_reducible refine gt_ 2 ?_); refine bx_ 2 #[.string a0_0, .string a0_1] 86 ?_; intro gb222 hg w15 hbox hb; have BK222 := am_ (hbox); have GE222 := gw_ HB hg; replace HB := bs_ HB hb; clear hb hbox hg) | ((with_reducible refine gt_ 3 ?_); refine bx_ 3 #[.string a1_0, .string a1_1] 86 ?_; intro gb223 hg w16 hbox hb; have BK223 := am_ (hbox); have GE223 := gw_ HB hg; replace HB := bs_ HB hb; have NB222_223 := nl_ BK222 hg; have NB223_222 := ng_ BK222 hg; replace BK222 := bb_ BK222 hb; clear hb hbox hg; have hnb17 := NB222_223.out; have hnc17 := NB223_222.out; obtain ⟨hcz18_0, hcz18_1, hfz18_0, hfz18_1⟩ := bj BK222.out; obtain ⟨hcz19_0, hcz19_1, hfz19_0, hfz19_1⟩ := bj BK223.out))
  go_ret
  exact ⟨u0_, bw_ HB⟩
def aZ.l0 : Nat → List (S86) → List (S86) → Int → Option (Bool)
 | 0, _, _, _ => none
 | k + 1, x0, x1, x5 => if x5 < (x0.length : Int) then (if 0 ≤ x5 then (if x5 < (x1.length : Int) then ((ej.f ((ac x0 x5).f0) ((ac x0 x5).f1) ((ac x1 x5).f0) ((ac x1 x5).f1)).bind fun t226 => (if t226 = true then (aZ.l0 k x0 x1 (wrap64 (x5 + 1))) else (some false))) else (none)) else (none)) else (some true)
def aZ.f (k : Nat) (l0 : List (S86)) (l1 : List (S86)) : Option (Bool) := if (l0.length : Int) = (l1.length : Int) then (aZ.l0 k l0 l1 0) else (some false)
def aZ.T6 : Bool × List (List Nat × List Nat) := (true, [([], []), ([], []), ([0, 1], [0, 1]), ([2], [2]), ([], []), ([], []), ([4, 5], [4, 5]), ([6], [6]), ([3, 7], [3, 7]), ([8], [8])])
def aZ.B6 : List Nat := [0, 0, 3, 7, 0, 0, 48, 112, 255, 511]
theorem aZ.tab6 : dw .any (fm Tryz.f74 6) = aZ.T6 := by kernel_rfl
theorem aZ.bits6 : de aZ.T6.2 aZ.B6 = true := by kernel_rfl
theorem aZ.calls (k : Nat) (A0 : Option Addr) (c0 : Nat) (l0 : List (S86)) (A1 : Option Addr) (c1 : Nat) (l1 : List (S86)) (r : Bool) (w : World) (hr0 : Kd.C k86 w A0 l0.length l0) (hc0 : l0.length ≤ c0) (hr1 : Kd.C k86 w A1 l1.length l1) (hc1 : l1.length ≤ c1) (h : aZ.f k l0 l1 = some r) :
  Calls Tryz.prog 74 #[.slice A0 l0.length c0, .slice A1 l1.length c1] w fun e w' => e = .returned (.bool r) ∧ Below w.heap.size w w' := by
 have hu86 := Tryz.underlying86; have HR0 := am_ hr0; have HC0 := am_ hc0; clear hr0 hc0; have HR1 := am_ hr1; have HC1 := am_ hc1; clear hr1 hc1; have HB := am_ (Below.refl w.heap.size w); have H := h; clear h; unfold aZ.f at H
 by_cases c3 : (l0.length : Int) = (l1.length : Int)
 ·rw [if_pos c3] at H; have c3b0 := cV c3; have c3b1 := cW c3; have c3b2 : (l0.length == l1.length) = true := by first | simpa using c3 | (simp at c3 ⊢; omega)
  clear c3; have H' := am_ H; clear H; go_enter Tryz.func74, Tryz.ntmps74
  go_wp2; go_loopg [5] k (fun kq v5 w' => ∃ (x5_1 : Int), v5 = .int .i64 x5_1 ∧ aa (aZ.l0 kq l0 l1 x5_1 = some r) ∧ aa (kq ≤ k) ∧ aa (Below w.heap.size w w'))
  case atStart => exact ⟨(0), u1_, H', ⟨Nat.le_refl _⟩, ⟨bw_ HB⟩⟩
  case round =>
   clear H'; try clear c1
   try clear c3
   try clear c3b0
   try clear c3b1
   try clear c3b2
   obtain ⟨x5_1, rfl, HA, HK1, HB⟩ := hrel; cases gk with
   | zero => exact absurd HA.out (by simp [aZ.l0])
   | succ k1 =>
    have H := HA.out; clear HA; simp only [aZ.l0] at H; by_cases c4 : x5_1 < (l0.length : Int)
    ·rw [if_pos c4] at H; have c4b0 := decide_eq_true c4; clear c4; obtain ⟨c5b0, H⟩ := gd_ H; obtain ⟨c6b0, H⟩ := gd_ H; obtain ⟨t226, A7, H⟩ := bi_ H; have HC_ := am_ H; clear H; try go_wp2
     replace HB := am_ (aN HB.out); obtain ⟨ad224, e224, hx224_0, hx224_1⟩ := dk HR0.out x5_1 od_ od_; have hw224_1 := hx224_1; have hw224_0 := hx224_0; cases e224; replace hx224_0 := cb_ HB hx224_0; replace hx224_1 := cb_ HB hx224_1; obtain ⟨p224, q224⟩ := pt_ x5_1 l0.length; obtain ⟨ad225, e225, hx225_0, hx225_1⟩ := dk HR1.out x5_1 od_ od_; have hw225_1 := hx225_1; have hw225_0 := hx225_0; cases e225; replace hx225_0 := cb_ HB hx225_0; replace hx225_1 := cb_ HB hx225_1; obtain ⟨p225, q225⟩ := pt_ x5_1 l1.length; refine dd (n := 10) (S := fun w' => w'.cell? (ad224.add ((x5_1).toNat * 2)) = some (.string ((ac l0 x5_1).f0)) ∧ w'.cell? ⟨(ad224.add ((x5_1).toNat * 2)).block, (ad224.add ((x5_1).toNat * 2)).off + 1, none⟩ = some (.string ((ac l0 x5_1).f1)) ∧ w'.cell? (ad225.add ((x5_1).toNat * 2)) = some (.string ((ac l1 x5_1).f0)) ∧ w'.cell? ⟨(ad225.add ((x5_1).toNat * 2)).block, (ad225.add ((x5_1).toNat * 2)).off + 1, none⟩ = some (.string ((ac l1 x5_1).f1))) (ds := []) (bm_ 10 0) bY rfl rfl ⟨(cc_ HB hw224_0), (cc_ HB hw224_1), (cc_ HB hw225_0), (cc_ HB hw225_1)⟩ (fun hHeld => ?_); refine bH aZ.tab6 aZ.bits6 (fun HT_ HW_ => ?_); generalize wr.drew = w11 at HB hx224_0 hx224_1 hx225_0 hx225_1 hHeld ⊢; refine pv_ 0 17 ?_; refine pv_ 1 18 ?_; refine pv_ 2 19 ?_; refine pv_ 4 21 ?_; refine pv_ 5 22 ?_; refine pv_ 6 23 ?_; refine tv_ 3 20 ?_; refine tv_ 7 24 ?_; refine ov_ 8 25 (fun K hK => ?_); refine oB_ Tryz.func124 (ej.calls ((ac l0 x5_1).f0) ((ac l0 x5_1).f1) ((ac l1 x5_1).f0) ((ac l1 x5_1).f1) t226 _ A7.out) ?_; intro w12 hb; replace HB := bs_ HB hb; (try clear hb)
     refine hK.out _ _ ⟨(cc_ HB hw224_0), (cc_ HB hw224_1), (cc_ HB hw225_0), (cc_ HB hw225_1)⟩ (fun hHeld => ?_); clear hK K; refine nm_ ?_; refine pv_ 9 26 ?_; refine dn_ HT_ ?_; have H := HC_.out; clear HC_; cases t226
     ·replace H := hf_ H; obtain rfl := si_ H; try go_wp2
      go_ret
      exact ⟨u0_, bw_ HB⟩
     ·replace H := ht_ H; have H' := am_ H; clear H; try go_wp2
      go_roundg k1
      case measure => have := HK1.out; omega
      case rel => exact ⟨(wrap64 (x5_1 + 1)), u1_, H', ⟨dm⟩, ⟨bw_ HB⟩⟩
    ·rw [if_neg c4] at H; have c4b0 := decide_eq_false c4; clear c4; obtain rfl := si_ H; go_wp2; go_ret
     exact ⟨u0_, bw_ HB⟩
 ·rw [if_neg c3] at H; have c3b0 := cU c3; have c3b1 := cT c3; have c3b2 : (l0.length == l1.length) = false := by first | simpa using c3 | (simp at c3 ⊢; omega)
  obtain rfl := si_ H; go_enter Tryz.func74, Tryz.ntmps74
  go_wp2; go_ret
  exact ⟨u0_, bw_ HB⟩
def cr.f (k : Nat) (a0_0 : ByteArray) (l0_1 : List (S86)) (a1_0 : ByteArray) (l1_1 : List (S86)) : Option (Bool) := if a0_0.toList = a1_0.toList then ((aZ.f k l0_1 l1_1).bind fun t229 => (if t229 = true then (some true) else (some false))) else (some false)
theorem cr.calls (k : Nat) (a0_0 : ByteArray) (A0_1 : Option Addr) (c0_1 : Nat) (l0_1 : List (S86)) (a1_0 : ByteArray) (A1_1 : Option Addr) (c1_1 : Nat) (l1_1 : List (S86)) (r : Bool) (w : World) (hr0_1 : Kd.C k86 w A0_1 l0_1.length l0_1) (hc0_1 : l0_1.length ≤ c0_1) (hr1_1 : Kd.C k86 w A1_1 l1_1.length l1_1) (hc1_1 : l1_1.length ≤ c1_1) (h : cr.f k a0_0 l0_1 a1_0 l1_1 = some r) :
  Calls Tryz.prog 29 #[.agg #[.string a0_0, .slice A0_1 l0_1.length c0_1], .agg #[.string a1_0, .slice A1_1 l1_1.length c1_1]] w fun e w' => e = .returned (.bool r) ∧ Below w.heap.size w w' := by
 have hu44 := Tryz.underlying44; have HR0_1 := am_ hr0_1; have HC0_1 := am_ hc0_1; clear hr0_1 hc0_1; have HR1_1 := am_ hr1_1; have HC1_1 := am_ hc1_1; clear hr1_1 hc1_1; have HB := am_ (Below.refl w.heap.size w); have H := h; clear h; unfold cr.f at H
 by_cases c3 : a0_0.toList = a1_0.toList
 ·rw [if_pos c3] at H; have c3b0 := cV c3; have c3b1 := cW c3; clear c3; obtain ⟨t229, A4, H⟩ := bi_ H; cases t229
  ·replace H := hf_ H; obtain rfl := si_ H; go_enter Tryz.func29, Tryz.ntmps29
   go_wp2_with (first | ((with_reducible refine gt_ 2 ?_); refine bx_ 2 #[.string a0_0, .slice A0_1 l0_1.length c0_1] 44 ?_; intro gb227 hg w12 hbox hb; have BK227 := am_ (hbox); have GE227 := gw_ HB hg; replace HB := bs_ HB hb; clear hb hbox hg) | ((with_reducible refine gt_ 3 ?_); refine bx_ 3 #[.string a1_0, .slice A1_1 l1_1.length c1_1] 44 ?_; intro gb228 hg w13 hbox hb; have BK228 := am_ (hbox); have GE228 := gw_ HB hg; replace HB := bs_ HB hb; have NB227_228 := nl_ BK227 hg; have NB228_227 := ng_ BK227 hg; replace BK227 := bb_ BK227 hb; clear hb hbox hg; have hnb14 := NB227_228.out; have hnc14 := NB228_227.out; obtain ⟨hcz15_0, hcz15_1, hfz15_0, hfz15_1⟩ := bj BK227.out; obtain ⟨hcz16_0, hcz16_1, hfz16_0, hfz16_1⟩ := bj BK228.out) | ((with_reducible refine gt_ 14 ?_); refine gB_ 14 Tryz.func74 (aZ.calls k _ _ l0_1 _ _ l1_1 false _ (kc_ HR0_1 HB) HC0_1.out (kc_ HR1_1 HB) HC1_1.out A4.out) ?_; intro w17 hb; replace HB := bs_ HB hb; (try clear hb)))
   go_ret
   exact ⟨u0_, bw_ HB⟩
  ·replace H := ht_ H; obtain rfl := si_ H; go_enter Tryz.func29, Tryz.ntmps29
   go_wp2_with (first | ((with_reducible refine gt_ 2 ?_); refine bx_ 2 #[.string a0_0, .slice A0_1 l0_1.length c0_1] 44 ?_; intro gb227 hg w6 hbox hb; have BK227 := am_ (hbox); have GE227 := gw_ HB hg; replace HB := bs_ HB hb; clear hb hbox hg) | ((with_reducible refine gt_ 3 ?_); refine bx_ 3 #[.string a1_0, .slice A1_1 l1_1.length c1_1] 44 ?_; intro gb228 hg w7 hbox hb; have BK228 := am_ (hbox); have GE228 := gw_ HB hg; replace HB := bs_ HB hb; have NB227_228 := nl_ BK227 hg; have NB228_227 := ng_ BK227 hg; replace BK227 := bb_ BK227 hb; clear hb hbox hg; have hnb8 := NB227_228.out; have hnc8 := NB228_227.out; obtain ⟨hcz9_0, hcz9_1, hfz9_0, hfz9_1⟩ := bj BK227.out; obtain ⟨hcz10_0, hcz10_1, hfz10_0, hfz10_1⟩ := bj BK228.out) | ((with_reducible refine gt_ 14 ?_); refine gB_ 14 Tryz.func74 (aZ.calls k _ _ l0_1 _ _ l1_1 true _ (kc_ HR0_1 HB) HC0_1.out (kc_ HR1_1 HB) HC1_1.out A4.out) ?_; intro w11 hb; replace HB := bs_ HB hb; (try clear hb)))
   go_ret
   exact ⟨u0_, bw_ HB⟩
 ·rw [if_neg c3] at H; have c3b0 := cU c3; have c3b1 := cT c3; obtain rfl := si_ H; go_enter Tryz.func29, Tryz.ntmps29
  go_wp2_with (first | ((with_reducible refine gt_ 2 ?_); refine bx_ 2 #[.string a0_0, .slice A0_1 l0_1.length c0_1] 44 ?_; intro gb227 hg w18 hbox hb; have BK227 := am_ (hbox); have GE227 := gw_ HB hg; replace HB := bs_ HB hb; clear hb hbox hg) | ((with_reducible refine gt_ 3 ?_); refine bx_ 3 #[.string a1_0, .slice A1_1 l1_1.length c1_1] 44 ?_; intro gb228 hg w19 hbox hb; have BK228 := am_ (hbox); have GE228 := gw_ HB hg; replace HB := bs_ HB hb; have NB227_228 := nl_ BK227 hg; have NB228_227 := ng_ BK227 hg; replace BK227 := bb_ BK227 hb; clear hb hbox hg; have hnb20 := NB227_228.out; have hnc20 := NB228_227.out; obtain ⟨hcz21_0, hcz21_1, hfz21_0, hfz21_1⟩ := bj BK227.out; obtain ⟨hcz22_0, hcz22_1, hfz22_0, hfz22_1⟩ := bj BK228.out))
  go_ret
  exact ⟨u0_, bw_ HB⟩
def eL.f (k : Nat) (a0_0 : Int) (a0_1 : ByteArray) (l0_2 : List (S86)) (a1_0 : Int) (a1_1 : ByteArray) (l1_2 : List (S86)) : Option (Bool) := if a0_0 = a1_0 then ((cr.f k a0_1 l0_2 a1_1 l1_2).bind fun t232 => (if t232 = true then (some true) else (some false))) else (some false)
theorem eL.calls (k : Nat) (a0_0 : Int) (a0_1 : ByteArray) (A0_2 : Option Addr) (c0_2 : Nat) (l0_2 : List (S86)) (a1_0 : Int) (a1_1 : ByteArray) (A1_2 : Option Addr) (c1_2 : Nat) (l1_2 : List (S86)) (r : Bool) (w : World) (hr0_2 : Kd.C k86 w A0_2 l0_2.length l0_2) (hc0_2 : l0_2.length ≤ c0_2) (hr1_2 : Kd.C k86 w A1_2 l1_2.length l1_2) (hc1_2 : l1_2.length ≤ c1_2) (h : eL.f k a0_0 a0_1 l0_2 a1_0 a1_1 l1_2 = some r) :
  Calls Tryz.prog 122 #[.agg #[.int .i64 a0_0, .string a0_1, .slice A0_2 l0_2.length c0_2], .agg #[.int .i64 a1_0, .string a1_1, .slice A1_2 l1_2.length c1_2]] w fun e w' => e = .returned (.bool r) ∧ Below w.heap.size w w' := by
 have hu46 := Tryz.underlying46; have hu44 := Tryz.underlying44; have HR0_2 := am_ hr0_2; have HC0_2 := am_ hc0_2; clear hr0_2 hc0_2; have HR1_2 := am_ hr1_2; have HC1_2 := am_ hc1_2; clear hr1_2 hc1_2; have HB := am_ (Below.refl w.heap.size w); have H := h; clear h; unfold eL.f at H
 by_cases c3 : a0_0 = a1_0
 ·rw [if_pos c3] at H; have c3b0 := cV c3; have c3b1 := cW c3; clear c3; obtain ⟨t232, A4, H⟩ := bi_ H; cases t232
  ·replace H := hf_ H; obtain rfl := si_ H; go_enter Tryz.func122, Tryz.ntmps122
   go_wp2_with (first | ((with_reducible refine gt_ 2 ?_); refine bx_ 2 #[.int .i64 a0_0, .string a0_1, .slice A0_2 l0_2.length c0_2] 46 ?_; intro gb230 hg w12 hbox hb; have BK230 := am_ (hbox); have GE230 := gw_ HB hg; replace HB := bs_ HB hb; clear hb hbox hg) | ((with_reducible refine gt_ 3 ?_); refine bx_ 3 #[.int .i64 a1_0, .string a1_1, .slice A1_2 l1_2.length c1_2] 46 ?_; intro gb231 hg w13 hbox hb; have BK231 := am_ (hbox); have GE231 := gw_ HB hg; replace HB := bs_ HB hb; have NB230_231 := nl_ BK230 hg; have NB231_230 := ng_ BK230 hg; replace BK230 := bb_ BK230 hb; clear hb hbox hg; have hnb14 := NB230_231.out; have hnc14 := NB231_230.out; obtain ⟨hcz15_0, hcz15_1, hcz15_2, hfz15_0, hfz15_1, hfz15_2⟩ := bR BK230.out; obtain ⟨hcz16_0, hcz16_1, hcz16_2, hfz16_0, hfz16_1, hfz16_2⟩ := bR BK231.out) | ((with_reducible refine gt_ 14 ?_); refine gB_ 14 Tryz.func29 (cr.calls k a0_1 _ _ l0_2 a1_1 _ _ l1_2 false _ (kc_ HR0_2 HB) HC0_2.out (kc_ HR1_2 HB) HC1_2.out A4.out) ?_; intro w17 hb; replace HB := bs_ HB hb; (try clear hb)))
   go_ret
   exact ⟨u0_, bw_ HB⟩
  ·replace H := ht_ H; obtain rfl := si_ H; go_enter Tryz.func122, Tryz.ntmps122
   go_wp2_with (first | ((with_reducible refine gt_ 2 ?_); refine bx_ 2 #[.int .i64 a0_0, .string a0_1, .slice A0_2 l0_2.length c0_2] 46 ?_; intro gb230 hg w6 hbox hb; have BK230 := am_ (hbox); have GE230 := gw_ HB hg; replace HB := bs_ HB hb; clear hb hbox hg) | ((with_reducible refine gt_ 3 ?_); refine bx_ 3 #[.int .i64 a1_0, .string a1_1, .slice A1_2 l1_2.length c1_2] 46 ?_; intro gb231 hg w7 hbox hb; have BK231 := am_ (hbox); have GE231 := gw_ HB hg; replace HB := bs_ HB hb; have NB230_231 := nl_ BK230 hg; have NB231_230 := ng_ BK230 hg; replace BK230 := bb_ BK230 hb; clear hb hbox hg; have hnb8 := NB230_231.out; have hnc8 := NB231_230.out; obtain ⟨hcz9_0, hcz9_1, hcz9_2, hfz9_0, hfz9_1, hfz9_2⟩ := bR BK230.out; obtain ⟨hcz10_0, hcz10_1, hcz10_2, hfz10_0, hfz10_1, hfz10_2⟩ := bR BK231.out) | ((with_reducible refine gt_ 14 ?_); refine gB_ 14 Tryz.func29 (cr.calls k a0_1 _ _ l0_2 a1_1 _ _ l1_2 true _ (kc_ HR0_2 HB) HC0_2.out (kc_ HR1_2 HB) HC1_2.out A4.out) ?_; intro w11 hb; replace HB := bs_ HB hb; (try clear hb)))
   go_ret
   exact ⟨u0_, bw_ HB⟩
 ·rw [if_neg c3] at H; have c3b0 := cU c3; have c3b1 := cT c3; obtain rfl := si_ H; go_enter Tryz.func122, Tryz.ntmps122
  go_wp2_with (first | ((with_reducible refine gt_ 2 ?_); refine bx_ 2 #[.int .i64 a0_0, .string a0_1, .slice A0_2 l0_2.length c0_2] 46 ?_; intro gb230 hg w18 hbox hb; have BK230 := am_ (hbox); have GE230 := gw_ HB hg; replace HB := bs_ HB hb; clear hb hbox hg) | ((with_reducible refine gt_ 3 ?_); refine bx_ 3 #[.int .i64 a1_0, .string a1_1, .slice A1_2 l1_2.length c1_2] 46 ?_; intro gb231 hg w19 hbox hb; have BK231 := am_ (hbox); have GE231 := gw_ HB hg; replace HB := bs_ HB hb; have NB230_231 := nl_ BK230 hg; have NB231_230 := ng_ BK230 hg; replace BK230 := bb_ BK230 hb; clear hb hbox hg; have hnb20 := NB230_231.out; have hnc20 := NB231_230.out; obtain ⟨hcz21_0, hcz21_1, hcz21_2, hfz21_0, hfz21_1, hfz21_2⟩ := bR BK230.out; obtain ⟨hcz22_0, hcz22_1, hcz22_2, hfz22_0, hfz22_1, hfz22_2⟩ := bR BK231.out))
  go_ret
  exact ⟨u0_, bw_ HB⟩
def a8.l0 : Nat → List (S46) → List (S46) → Int → Option (Bool)
 | 0, _, _, _ => none
 | k + 1, x0, x1, x5 => if x5 < (x0.length : Int) then (if 0 ≤ x5 then (if x5 < (x1.length : Int) then ((eL.f k ((ab x0 x5).f0) ((ab x0 x5).f1.f0) ((ab x0 x5).f1.f1) ((ab x1 x5).f0) ((ab x1 x5).f1.f0) ((ab x1 x5).f1.f1)).bind fun t235 => (if t235 = true then (a8.l0 k x0 x1 (wrap64 (x5 + 1))) else (some false))) else (none)) else (none)) else (some true)
def a8.f (k : Nat) (l0 : List (S46)) (l1 : List (S46)) : Option (Bool) := if (l0.length : Int) = (l1.length : Int) then (a8.l0 k l0 l1 0) else (some false)
def a8.T6 : Bool × List (List Nat × List Nat) := (true, [([], []), ([], []), ([0, 1], [0, 1]), ([2], [2]), ([], []), ([], []), ([4, 5], [4, 5]), ([6], [6]), ([3, 7], [3, 7]), ([8], [8])])
def a8.B6 : List Nat := [0, 0, 3, 7, 0, 0, 48, 112, 255, 511]
theorem a8.tab6 : dw .any (fm Tryz.f71 6) = a8.T6 := by kernel_rfl
theorem a8.bits6 : de a8.T6.2 a8.B6 = true := by kernel_rfl
theorem a8.calls (k : Nat) (A0 : Option Addr) (c0 : Nat) (l0 : List (S46)) (A1 : Option Addr) (c1 : Nat) (l1 : List (S46)) (r : Bool) (w : World) (hr0 : Kd.C k46 w A0 l0.length l0) (hc0 : l0.length ≤ c0) (hr1 : Kd.C k46 w A1 l1.length l1) (hc1 : l1.length ≤ c1) (h : a8.f k l0 l1 = some r) :
  Calls Tryz.prog 71 #[.slice A0 l0.length c0, .slice A1 l1.length c1] w fun e w' => e = .returned (.bool r) ∧ Below w.heap.size w w' := by
 have hu46 := Tryz.underlying46; have HR0 := am_ hr0; have HC0 := am_ hc0; clear hr0 hc0; have HR1 := am_ hr1; have HC1 := am_ hc1; clear hr1 hc1; have HB := am_ (Below.refl w.heap.size w); have H := h; clear h; unfold a8.f at H
 by_cases c3 : (l0.length : Int) = (l1.length : Int)
 ·rw [if_pos c3] at H; have c3b0 := cV c3; have c3b1 := cW c3; have c3b2 : (l0.length == l1.length) = true := by first | simpa using c3 | (simp at c3 ⊢; omega)
  clear c3; have H' := am_ H; clear H; go_enter Tryz.func71, Tryz.ntmps71
  go_wp2; go_loopg [5] k (fun kq v5 w' => ∃ (x5_1 : Int), v5 = .int .i64 x5_1 ∧ aa (a8.l0 kq l0 l1 x5_1 = some r) ∧ aa (kq ≤ k) ∧ aa (Below w.heap.size w w'))
  case atStart => exact ⟨(0), u1_, H', ⟨Nat.le_refl _⟩, ⟨bw_ HB⟩⟩
  case round =>
   clear H'; try clear c1
   try clear c3
   try clear c3b0
   try clear c3b1
   try clear c3b2
   obtain ⟨x5_1, rfl, HA, HK1, HB⟩ := hrel; cases gk with
   | zero => exact absurd HA.out (by simp [a8.l0])
   | succ k1 =>
    have H := HA.out; clear HA; simp only [a8.l0] at H; by_cases c4 : x5_1 < (l0.length : Int)
    ·rw [if_pos c4] at H; have c4b0 := decide_eq_true c4; clear c4; obtain ⟨c5b0, H⟩ := gd_ H; obtain ⟨c6b0, H⟩ := gd_ H; obtain ⟨t235, A7, H⟩ := bi_ H; have HC_ := am_ H; clear H; try go_wp2
     replace HB := am_ (aN HB.out); obtain ⟨ad233, A233_2, c233_2, e233, hx233_0, hx233_1, hx233_2, hl233_2, hi233_2⟩ := fj HR0.out x5_1 od_ od_; have hw233_2 := hx233_2; have hw233_1 := hx233_1; have hw233_0 := hx233_0; cases e233; replace hx233_0 := cb_ HB hx233_0; replace hx233_1 := cb_ HB hx233_1; replace hx233_2 := cb_ HB hx233_2; have HR233_2 := am_ hi233_2; have HC233_2 := am_ hl233_2; clear hi233_2 hl233_2; obtain ⟨p233, q233⟩ := pt_ x5_1 l0.length; obtain ⟨ad234, A234_2, c234_2, e234, hx234_0, hx234_1, hx234_2, hl234_2, hi234_2⟩ := fj HR1.out x5_1 od_ od_; have hw234_2 := hx234_2; have hw234_1 := hx234_1; have hw234_0 := hx234_0; cases e234; replace hx234_0 := cb_ HB hx234_0; replace hx234_1 := cb_ HB hx234_1; replace hx234_2 := cb_ HB hx234_2; have HR234_2 := am_ hi234_2; have HC234_2 := am_ hl234_2; clear hi234_2 hl234_2; obtain ⟨p234, q234⟩ := pt_ x5_1 l1.length; refine dd (n := 10) (S := fun w' => w'.cell? (ad233.add ((x5_1).toNat * 3)) = some (.int .i64 ((ab l0 x5_1).f0)) ∧ w'.cell? ⟨(ad233.add ((x5_1).toNat * 3)).block, (ad233.add ((x5_1).toNat * 3)).off + 1, none⟩ = some (.string ((ab l0 x5_1).f1.f0)) ∧ w'.cell? ⟨(ad233.add ((x5_1).toNat * 3)).block, (ad233.add ((x5_1).toNat * 3)).off + 2, none⟩ = some (.slice A233_2 ((ab l0 x5_1).f1.f1).length c233_2) ∧ w'.cell? (ad234.add ((x5_1).toNat * 3)) = some (.int .i64 ((ab l1 x5_1).f0)) ∧ w'.cell? ⟨(ad234.add ((x5_1).toNat * 3)).block, (ad234.add ((x5_1).toNat * 3)).off + 1, none⟩ = some (.string ((ab l1 x5_1).f1.f0)) ∧ w'.cell? ⟨(ad234.add ((x5_1).toNat * 3)).block, (ad234.add ((x5_1).toNat * 3)).off + 2, none⟩ = some (.slice A234_2 ((ab l1 x5_1).f1.f1).length c234_2)) (ds := []) (bm_ 10 0) bY rfl rfl ⟨(cc_ HB hw233_0), (cc_ HB hw233_1), (cc_ HB hw233_2), (cc_ HB hw234_0), (cc_ HB hw234_1), (cc_ HB hw234_2)⟩ (fun hHeld => ?_); refine bH a8.tab6 a8.bits6 (fun HT_ HW_ => ?_); generalize wr.drew = w11 at HB HR233_2 HR234_2 hx233_0 hx233_1 hx233_2 hx234_0 hx234_1 hx234_2 hHeld ⊢; refine pv_ 0 17 ?_; refine pv_ 1 18 ?_; refine pv_ 2 19 ?_; refine pv_ 4 21 ?_; refine pv_ 5 22 ?_; refine pv_ 6 23 ?_; refine tv_ 3 20 ?_; refine tv_ 7 24 ?_; refine ov_ 8 25 (fun K hK => ?_); refine oB_ Tryz.func122 (eL.calls k1 ((ab l0 x5_1).f0) ((ab l0 x5_1).f1.f0) _ _ ((ab l0 x5_1).f1.f1) ((ab l1 x5_1).f0) ((ab l1 x5_1).f1.f0) _ _ ((ab l1 x5_1).f1.f1) t235 _ (kc_ HR233_2 HB) HC233_2.out (kc_ HR234_2 HB) HC234_2.out A7.out) ?_; intro w12 hb; replace HB := bs_ HB hb; (try clear hb)
     refine hK.out _ _ ⟨(cc_ HB hw233_0), (cc_ HB hw233_1), (cc_ HB hw233_2), (cc_ HB hw234_0), (cc_ HB hw234_1), (cc_ HB hw234_2)⟩ (fun hHeld => ?_); clear hK K; refine nm_ ?_; refine pv_ 9 26 ?_; refine dn_ HT_ ?_; have H := HC_.out; clear HC_; cases t235
     ·replace H := hf_ H; obtain rfl := si_ H; try go_wp2
      go_ret
      exact ⟨u0_, bw_ HB⟩
     ·replace H := ht_ H; have H' := am_ H; clear H; try go_wp2
      go_roundg k1
      case measure => have := HK1.out; omega
      case rel => exact ⟨(wrap64 (x5_1 + 1)), u1_, H', ⟨dm⟩, ⟨bw_ HB⟩⟩
    ·rw [if_neg c4] at H; have c4b0 := decide_eq_false c4; clear c4; obtain rfl := si_ H; go_wp2; go_ret
     exact ⟨u0_, bw_ HB⟩
 ·rw [if_neg c3] at H; have c3b0 := cU c3; have c3b1 := cT c3; have c3b2 : (l0.length == l1.length) = false := by first | simpa using c3 | (simp at c3 ⊢; omega)
  obtain rfl := si_ H; go_enter Tryz.func71, Tryz.ntmps71
  go_wp2; go_ret
  exact ⟨u0_, bw_ HB⟩
def ce.l0 : Nat → List Int → List Int → Int → Option (Bool)
 | 0, _, _, _ => none
 | k + 1, x0, x1, x5 => if x5 < (x0.length : Int) then (if 0 ≤ x5 then (if x5 < (x1.length : Int) then (if (rd x0 x5) = (rd x1 x5) then (ce.l0 k x0 x1 (wrap64 (x5 + 1))) else (some false)) else (none)) else (none)) else (some true)
def ce.f (k : Nat) (l0 : List Int) (l1 : List Int) : Option (Bool) := if (l0.length : Int) = (l1.length : Int) then (ce.l0 k l0 l1 0) else (some false)
theorem ce.calls (k : Nat) (A0 : Option Addr) (c0 : Nat) (l0 : List Int) (A1 : Option Addr) (c1 : Nat) (l1 : List Int) (r : Bool) (w : World) (hr0 : Kd.C (Kd.int .i64) w A0 l0.length l0) (hc0 : l0.length ≤ c0) (hr1 : Kd.C (Kd.int .i64) w A1 l1.length l1) (hc1 : l1.length ≤ c1) (h : ce.f k l0 l1 = some r) :
  Calls Tryz.prog 125 #[.slice A0 l0.length c0, .slice A1 l1.length c1] w fun e w' => e = .returned (.bool r) ∧ Drawn0 w w' := by
 have HR0 := am_ hr0; have HC0 := am_ hc0; clear hr0 hc0; have HR1 := am_ hr1; have HC1 := am_ hc1; clear hr1 hc1; have H := h; clear h; unfold ce.f at H
 by_cases c3 : (l0.length : Int) = (l1.length : Int)
 ·rw [if_pos c3] at H; have c3b0 := cV c3; have c3b1 := cW c3; have c3b2 : (l0.length == l1.length) = true := by first | simpa using c3 | (simp at c3 ⊢; omega)
  clear c3; have H' := am_ H; clear H; go_enter Tryz.func125, Tryz.ntmps125
  go_wp2; repeat (go_quiet (fail); try go_wp2)
  go_loopg [5] k (fun kq v5 w' => ∃ (x5_1 : Int), v5 = .int .i64 x5_1 ∧ aa (ce.l0 kq l0 l1 x5_1 = some r) ∧ aa (kq ≤ k) ∧ Drawn0 w w')
  case atStart => exact ⟨(0), u1_, H', ⟨Nat.le_refl _⟩, u3_⟩
  case round =>
   clear H'; try clear c1
   try clear c3
   try clear c3b0
   try clear c3b1
   try clear c3b2
   obtain ⟨x5_1, rfl, HA, HK1, ⟨m1, rfl⟩⟩ := hrel; cases gk with
   | zero => exact absurd HA.out (by simp [ce.l0])
   | succ k1 =>
    have H := HA.out; clear HA; simp only [ce.l0] at H; by_cases c4 : x5_1 < (l0.length : Int)
    ·rw [if_pos c4] at H; have c4b0 := decide_eq_true c4; clear c4; obtain ⟨c5b0, H⟩ := gd_ H; obtain ⟨c6b0, H⟩ := gd_ H; have HC_ := am_ H; clear H; obtain ⟨ad236, e236, hx236_0⟩ := Kd.at_int HR0.out x5_1 od_ od_; cases e236; obtain ⟨p236, q236⟩ := pt_ x5_1 l0.length; obtain ⟨ad237, e237, hx237_0⟩ := Kd.at_int HR1.out x5_1 od_ od_; cases e237; obtain ⟨p237, q237⟩ := pt_ x5_1 l1.length; have H := HC_.out; clear HC_; by_cases c7 : (rd l0 x5_1) = (rd l1 x5_1)
     ·rw [if_pos c7] at H; have c7b0 := cV c7; have c7b1 := cW c7; clear c7; have H' := am_ H; clear H; (first | rw [c7b0] | (simp only [ap, au]; rw [c7b0]) | skip)
      go_wp2; repeat (go_quiet (fail); try go_wp2)
      go_roundg k1
      case measure => have := HK1.out; omega
      case rel => exact ⟨(wrap64 (x5_1 + 1)), u1_, H', ⟨dm⟩, u3_⟩
     ·rw [if_neg c7] at H; have c7b0 := cU c7; have c7b1 := cT c7; obtain rfl := si_ H; (first | rw [c7b0] | (simp only [ap, au]; rw [c7b0]) | skip)
      go_wp2; repeat (go_quiet (fail); try go_wp2)
      go_ret
      exact ⟨u4_, u3_⟩
    ·rw [if_neg c4] at H; have c4b0 := decide_eq_false c4; clear c4; obtain rfl := si_ H; go_wp2; repeat (go_quiet (fail); try go_wp2)
     go_ret
     exact ⟨u4_, u3_⟩
 ·rw [if_neg c3] at H; have c3b0 := cU c3; have c3b1 := cT c3; have c3b2 : (l0.length == l1.length) = false := by first | simpa using c3 | (simp at c3 ⊢; omega)
  obtain rfl := si_ H; go_enter Tryz.func125, Tryz.ntmps125
  go_wp2; repeat (go_quiet (fail); try go_wp2)
  go_ret
  exact ⟨u4_, u3_⟩
def ek.f (k : Nat) (a0_0 : Int) (l0_1 : List Int) (a1_0 : Int) (l1_1 : List Int) : Option (Bool) := if a0_0 = a1_0 then ((ce.f k l0_1 l1_1).bind fun t240 => (if t240 = true then (some true) else (some false))) else (some false)
theorem ek.calls (k : Nat) (a0_0 : Int) (A0_1 : Option Addr) (c0_1 : Nat) (l0_1 : List Int) (a1_0 : Int) (A1_1 : Option Addr) (c1_1 : Nat) (l1_1 : List Int) (r : Bool) (w : World) (hr0_1 : Kd.C (Kd.int .i64) w A0_1 l0_1.length l0_1) (hc0_1 : l0_1.length ≤ c0_1) (hr1_1 : Kd.C (Kd.int .i64) w A1_1 l1_1.length l1_1) (hc1_1 : l1_1.length ≤ c1_1) (h : ek.f k a0_0 l0_1 a1_0 l1_1 = some r) :
  Calls Tryz.prog 80 #[.agg #[.int .i64 a0_0, .slice A0_1 l0_1.length c0_1], .agg #[.int .i64 a1_0, .slice A1_1 l1_1.length c1_1]] w fun e w' => e = .returned (.bool r) ∧ Below w.heap.size w w' := by
 have hu50 := Tryz.underlying50; have HR0_1 := am_ hr0_1; have HC0_1 := am_ hc0_1; clear hr0_1 hc0_1; have HR1_1 := am_ hr1_1; have HC1_1 := am_ hc1_1; clear hr1_1 hc1_1; have HB := am_ (Below.refl w.heap.size w); have H := h; clear h; unfold ek.f at H
 by_cases c3 : a0_0 = a1_0
 ·rw [if_pos c3] at H; have c3b0 := cV c3; have c3b1 := cW c3; clear c3; obtain ⟨t240, A4, H⟩ := bi_ H; cases t240
  ·replace H := hf_ H; obtain rfl := si_ H; go_enter Tryz.func80, Tryz.ntmps80
   go_wp2_with (first | ((with_reducible refine gt_ 2 ?_); refine bx_ 2 #[.int .i64 a0_0, .slice A0_1 l0_1.length c0_1] 50 ?_; intro gb238 hg w11 hbox hb; have BK238 := am_ (hbox); have GE238 := gw_ HB hg; replace HB := bs_ HB hb; clear hb hbox hg) | ((with_reducible refine gt_ 3 ?_); refine bx_ 3 #[.int .i64 a1_0, .slice A1_1 l1_1.length c1_1] 50 ?_; intro gb239 hg w12 hbox hb; have BK239 := am_ (hbox); have GE239 := gw_ HB hg; replace HB := bs_ HB hb; have NB238_239 := nl_ BK238 hg; have NB239_238 := ng_ BK238 hg; replace BK238 := bb_ BK238 hb; clear hb hbox hg; have hnb13 := NB238_239.out; have hnc13 := NB239_238.out; obtain ⟨hcz14_0, hcz14_1, hfz14_0, hfz14_1⟩ := bj BK238.out; obtain ⟨hcz15_0, hcz15_1, hfz15_0, hfz15_1⟩ := bj BK239.out) | ((with_reducible refine gt_ 14 ?_); refine gD_ 14 Tryz.func125 (ce.calls k _ _ l0_1 _ _ l1_1 false _ (kc_ HR0_1 HB) HC0_1.out (kc_ HR1_1 HB) HC1_1.out A4.out) ?_; intro nd))
   go_ret
   exact ⟨u0_, bw_ HB⟩
  ·replace H := ht_ H; obtain rfl := si_ H; go_enter Tryz.func80, Tryz.ntmps80
   go_wp2_with (first | ((with_reducible refine gt_ 2 ?_); refine bx_ 2 #[.int .i64 a0_0, .slice A0_1 l0_1.length c0_1] 50 ?_; intro gb238 hg w6 hbox hb; have BK238 := am_ (hbox); have GE238 := gw_ HB hg; replace HB := bs_ HB hb; clear hb hbox hg) | ((with_reducible refine gt_ 3 ?_); refine bx_ 3 #[.int .i64 a1_0, .slice A1_1 l1_1.length c1_1] 50 ?_; intro gb239 hg w7 hbox hb; have BK239 := am_ (hbox); have GE239 := gw_ HB hg; replace HB := bs_ HB hb; have NB238_239 := nl_ BK238 hg; have NB239_238 := ng_ BK238 hg; replace BK238 := bb_ BK238 hb; clear hb hbox hg; have hnb8 := NB238_239.out; have hnc8 := NB239_238.out; obtain ⟨hcz9_0, hcz9_1, hfz9_0, hfz9_1⟩ := bj BK238.out; obtain ⟨hcz10_0, hcz10_1, hfz10_0, hfz10_1⟩ := bj BK239.out) | ((with_reducible refine gt_ 14 ?_); refine gD_ 14 Tryz.func125 (ce.calls k _ _ l0_1 _ _ l1_1 true _ (kc_ HR0_1 HB) HC0_1.out (kc_ HR1_1 HB) HC1_1.out A4.out) ?_; intro nd))
   go_ret
   exact ⟨u0_, bw_ HB⟩
 ·rw [if_neg c3] at H; have c3b0 := cU c3; have c3b1 := cT c3; obtain rfl := si_ H; go_enter Tryz.func80, Tryz.ntmps80
  go_wp2_with (first | ((with_reducible refine gt_ 2 ?_); refine bx_ 2 #[.int .i64 a0_0, .slice A0_1 l0_1.length c0_1] 50 ?_; intro gb238 hg w16 hbox hb; have BK238 := am_ (hbox); have GE238 := gw_ HB hg; replace HB := bs_ HB hb; clear hb hbox hg) | ((with_reducible refine gt_ 3 ?_); refine bx_ 3 #[.int .i64 a1_0, .slice A1_1 l1_1.length c1_1] 50 ?_; intro gb239 hg w17 hbox hb; have BK239 := am_ (hbox); have GE239 := gw_ HB hg; replace HB := bs_ HB hb; have NB238_239 := nl_ BK238 hg; have NB239_238 := ng_ BK238 hg; replace BK238 := bb_ BK238 hb; clear hb hbox hg; have hnb18 := NB238_239.out; have hnc18 := NB239_238.out; obtain ⟨hcz19_0, hcz19_1, hfz19_0, hfz19_1⟩ := bj BK238.out; obtain ⟨hcz20_0, hcz20_1, hfz20_0, hfz20_1⟩ := bj BK239.out))
  go_ret
  exact ⟨u0_, bw_ HB⟩
def aY.l0 : Nat → List (S50) → List (S50) → Int → Option (Bool)
 | 0, _, _, _ => none
 | k + 1, x0, x1, x5 => if x5 < (x0.length : Int) then (if 0 ≤ x5 then (if x5 < (x1.length : Int) then ((ek.f k ((bb x0 x5).f0) ((bb x0 x5).f1) ((bb x1 x5).f0) ((bb x1 x5).f1)).bind fun t243 => (if t243 = true then (aY.l0 k x0 x1 (wrap64 (x5 + 1))) else (some false))) else (none)) else (none)) else (some true)
def aY.f (k : Nat) (l0 : List (S50)) (l1 : List (S50)) : Option (Bool) := if (l0.length : Int) = (l1.length : Int) then (aY.l0 k l0 l1 0) else (some false)
def aY.T6 : Bool × List (List Nat × List Nat) := (true, [([], []), ([], []), ([0, 1], [0, 1]), ([2], [2]), ([], []), ([], []), ([4, 5], [4, 5]), ([6], [6]), ([3, 7], [3, 7]), ([8], [8])])
def aY.B6 : List Nat := [0, 0, 3, 7, 0, 0, 48, 112, 255, 511]
theorem aY.tab6 : dw .any (fm Tryz.f33 6) = aY.T6 := by kernel_rfl
theorem aY.bits6 : de aY.T6.2 aY.B6 = true := by kernel_rfl
theorem aY.calls (k : Nat) (A0 : Option Addr) (c0 : Nat) (l0 : List (S50)) (A1 : Option Addr) (c1 : Nat) (l1 : List (S50)) (r : Bool) (w : World) (hr0 : Kd.C k50 w A0 l0.length l0) (hc0 : l0.length ≤ c0) (hr1 : Kd.C k50 w A1 l1.length l1) (hc1 : l1.length ≤ c1) (h : aY.f k l0 l1 = some r) :
  Calls Tryz.prog 33 #[.slice A0 l0.length c0, .slice A1 l1.length c1] w fun e w' => e = .returned (.bool r) ∧ Below w.heap.size w w' := by
 have hu50 := Tryz.underlying50; have HR0 := am_ hr0; have HC0 := am_ hc0; clear hr0 hc0; have HR1 := am_ hr1; have HC1 := am_ hc1; clear hr1 hc1; have HB := am_ (Below.refl w.heap.size w); have H := h; clear h; unfold aY.f at H
 by_cases c3 : (l0.length : Int) = (l1.length : Int)
 ·rw [if_pos c3] at H; have c3b0 := cV c3; have c3b1 := cW c3; have c3b2 : (l0.length == l1.length) = true := by first | simpa using c3 | (simp at c3 ⊢; omega)
  clear c3; have H' := am_ H; clear H; go_enter Tryz.func33, Tryz.ntmps33
  go_wp2; go_loopg [5] k (fun kq v5 w' => ∃ (x5_1 : Int), v5 = .int .i64 x5_1 ∧ aa (aY.l0 kq l0 l1 x5_1 = some r) ∧ aa (kq ≤ k) ∧ aa (Below w.heap.size w w'))
  case atStart => exact ⟨(0), u1_, H', ⟨Nat.le_refl _⟩, ⟨bw_ HB⟩⟩
  case round =>
   clear H'; try clear c1
   try clear c3
   try clear c3b0
   try clear c3b1
   try clear c3b2
   obtain ⟨x5_1, rfl, HA, HK1, HB⟩ := hrel; cases gk with
   | zero => exact absurd HA.out (by simp [aY.l0])
   | succ k1 =>
    have H := HA.out; clear HA; simp only [aY.l0] at H; by_cases c4 : x5_1 < (l0.length : Int)
    ·rw [if_pos c4] at H; have c4b0 := decide_eq_true c4; clear c4; obtain ⟨c5b0, H⟩ := gd_ H; obtain ⟨c6b0, H⟩ := gd_ H; obtain ⟨t243, A7, H⟩ := bi_ H; have HC_ := am_ H; clear H; try go_wp2
     replace HB := am_ (aN HB.out); obtain ⟨ad241, A241_1, c241_1, e241, hx241_0, hx241_1, hl241_1, hi241_1⟩ := ic HR0.out x5_1 od_ od_; have hw241_1 := hx241_1; have hw241_0 := hx241_0; cases e241; replace hx241_0 := cb_ HB hx241_0; replace hx241_1 := cb_ HB hx241_1; have HR241_1 := am_ hi241_1; have HC241_1 := am_ hl241_1; clear hi241_1 hl241_1; obtain ⟨p241, q241⟩ := pt_ x5_1 l0.length; obtain ⟨ad242, A242_1, c242_1, e242, hx242_0, hx242_1, hl242_1, hi242_1⟩ := ic HR1.out x5_1 od_ od_; have hw242_1 := hx242_1; have hw242_0 := hx242_0; cases e242; replace hx242_0 := cb_ HB hx242_0; replace hx242_1 := cb_ HB hx242_1; have HR242_1 := am_ hi242_1; have HC242_1 := am_ hl242_1; clear hi242_1 hl242_1; obtain ⟨p242, q242⟩ := pt_ x5_1 l1.length; refine dd (n := 10) (S := fun w' => w'.cell? (ad241.add ((x5_1).toNat * 2)) = some (.int .i64 ((bb l0 x5_1).f0)) ∧ w'.cell? ⟨(ad241.add ((x5_1).toNat * 2)).block, (ad241.add ((x5_1).toNat * 2)).off + 1, none⟩ = some (.slice A241_1 ((bb l0 x5_1).f1).length c241_1) ∧ w'.cell? (ad242.add ((x5_1).toNat * 2)) = some (.int .i64 ((bb l1 x5_1).f0)) ∧ w'.cell? ⟨(ad242.add ((x5_1).toNat * 2)).block, (ad242.add ((x5_1).toNat * 2)).off + 1, none⟩ = some (.slice A242_1 ((bb l1 x5_1).f1).length c242_1)) (ds := []) (bm_ 10 0) bY rfl rfl ⟨(cc_ HB hw241_0), (cc_ HB hw241_1), (cc_ HB hw242_0), (cc_ HB hw242_1)⟩ (fun hHeld => ?_); refine bH aY.tab6 aY.bits6 (fun HT_ HW_ => ?_); generalize wr.drew = w11 at HB HR241_1 HR242_1 hx241_0 hx241_1 hx242_0 hx242_1 hHeld ⊢; refine pv_ 0 17 ?_; refine pv_ 1 18 ?_; refine pv_ 2 19 ?_; refine pv_ 4 21 ?_; refine pv_ 5 22 ?_; refine pv_ 6 23 ?_; refine tv_ 3 20 ?_; refine tv_ 7 24 ?_; refine ov_ 8 25 (fun K hK => ?_); refine oB_ Tryz.func80 (ek.calls k1 ((bb l0 x5_1).f0) _ _ ((bb l0 x5_1).f1) ((bb l1 x5_1).f0) _ _ ((bb l1 x5_1).f1) t243 _ (kc_ HR241_1 HB) HC241_1.out (kc_ HR242_1 HB) HC242_1.out A7.out) ?_; intro w12 hb; replace HB := bs_ HB hb; (try clear hb)
     refine hK.out _ _ ⟨(cc_ HB hw241_0), (cc_ HB hw241_1), (cc_ HB hw242_0), (cc_ HB hw242_1)⟩ (fun hHeld => ?_); clear hK K; refine nm_ ?_; refine pv_ 9 26 ?_; refine dn_ HT_ ?_; have H := HC_.out; clear HC_; cases t243
     ·replace H := hf_ H; obtain rfl := si_ H; try go_wp2
      go_ret
      exact ⟨u0_, bw_ HB⟩
     ·replace H := ht_ H; have H' := am_ H; clear H; try go_wp2
      go_roundg k1
      case measure => have := HK1.out; omega
      case rel => exact ⟨(wrap64 (x5_1 + 1)), u1_, H', ⟨dm⟩, ⟨bw_ HB⟩⟩
    ·rw [if_neg c4] at H; have c4b0 := decide_eq_false c4; clear c4; obtain rfl := si_ H; go_wp2; go_ret
     exact ⟨u0_, bw_ HB⟩
 ·rw [if_neg c3] at H; have c3b0 := cU c3; have c3b1 := cT c3; have c3b2 : (l0.length == l1.length) = false := by first | simpa using c3 | (simp at c3 ⊢; omega)
  obtain rfl := si_ H; go_enter Tryz.func33, Tryz.ntmps33
  go_wp2; go_ret
  exact ⟨u0_, bw_ HB⟩
def dT.f (k : Nat) (a0_0 : ByteArray) (a0_1 : ByteArray) (l0_2 : List (S50)) (a1_0 : ByteArray) (a1_1 : ByteArray) (l1_2 : List (S50)) : Option (Bool) := if a0_0.toList = a1_0.toList then (if a0_1.toList = a1_1.toList then ((aY.f k l0_2 l1_2).bind fun t246 => (if t246 = true then (some true) else (some false))) else (some false)) else (some false)
theorem dT.calls (k : Nat) (a0_0 : ByteArray) (a0_1 : ByteArray) (A0_2 : Option Addr) (c0_2 : Nat) (l0_2 : List (S50)) (a1_0 : ByteArray) (a1_1 : ByteArray) (A1_2 : Option Addr) (c1_2 : Nat) (l1_2 : List (S50)) (r : Bool) (w : World) (hr0_2 : Kd.C k50 w A0_2 l0_2.length l0_2) (hc0_2 : l0_2.length ≤ c0_2) (hr1_2 : Kd.C k50 w A1_2 l1_2.length l1_2) (hc1_2 : l1_2.length ≤ c1_2) (h : dT.f k a0_0 a0_1 l0_2 a1_0 a1_1 l1_2 = some r) :
  Calls Tryz.prog 123 #[.agg #[.string a0_0, .string a0_1, .slice A0_2 l0_2.length c0_2], .agg #[.string a1_0, .string a1_1, .slice A1_2 l1_2.length c1_2]] w fun e w' => e = .returned (.bool r) ∧ Below w.heap.size w w' := by
 have hu76 := Tryz.underlying76; have HR0_2 := am_ hr0_2; have HC0_2 := am_ hc0_2; clear hr0_2 hc0_2; have HR1_2 := am_ hr1_2; have HC1_2 := am_ hc1_2; clear hr1_2 hc1_2; have HB := am_ (Below.refl w.heap.size w); have H := h; clear h; unfold dT.f at H
 by_cases c3 : a0_0.toList = a1_0.toList
 ·rw [if_pos c3] at H; have c3b0 := cV c3; have c3b1 := cW c3; clear c3; by_cases c4 : a0_1.toList = a1_1.toList
  ·rw [if_pos c4] at H; have c4b0 := cV c4; have c4b1 := cW c4; clear c4; obtain ⟨t246, A5, H⟩ := bi_ H; cases t246
   ·replace H := hf_ H; obtain rfl := si_ H; go_enter Tryz.func123, Tryz.ntmps123
    go_wp2_with (first | ((with_reducible refine gt_ 2 ?_); refine bx_ 2 #[.string a0_0, .string a0_1, .slice A0_2 l0_2.length c0_2] 76 ?_; intro gb244 hg w13 hbox hb; have BK244 := am_ (hbox); have GE244 := gw_ HB hg; replace HB := bs_ HB hb; clear hb hbox hg) | ((with_reducible refine gt_ 3 ?_); refine bx_ 3 #[.string a1_0, .string a1_1, .slice A1_2 l1_2.length c1_2] 76 ?_; intro gb245 hg w14 hbox hb; have BK245 := am_ (hbox); have GE245 := gw_ HB hg; replace HB := bs_ HB hb; have NB244_245 := nl_ BK244 hg; have NB245_244 := ng_ BK244 hg; replace BK244 := bb_ BK244 hb; clear hb hbox hg; have hnb15 := NB244_245.out; have hnc15 := NB245_244.out; obtain ⟨hcz16_0, hcz16_1, hcz16_2, hfz16_0, hfz16_1, hfz16_2⟩ := bR BK244.out; obtain ⟨hcz17_0, hcz17_1, hcz17_2, hfz17_0, hfz17_1, hfz17_2⟩ := bR BK245.out) | ((with_reducible refine gt_ 19 ?_); refine gB_ 19 Tryz.func33 (aY.calls k _ _ l0_2 _ _ l1_2 false _ (kc_ HR0_2 HB) HC0_2.out (kc_ HR1_2 HB) HC1_2.out A5.out) ?_; intro w18 hb; replace HB := bs_ HB hb; (try clear hb)))
    go_ret
    exact ⟨u0_, bw_ HB⟩
   ·replace H := ht_ H; obtain rfl := si_ H; go_enter Tryz.func123, Tryz.ntmps123
    go_wp2_with (first | ((with_reducible refine gt_ 2 ?_); refine bx_ 2 #[.string a0_0, .string a0_1, .slice A0_2 l0_2.length c0_2] 76 ?_; intro gb244 hg w7 hbox hb; have BK244 := am_ (hbox); have GE244 := gw_ HB hg; replace HB := bs_ HB hb; clear hb hbox hg) | ((with_reducible refine gt_ 3 ?_); refine bx_ 3 #[.string a1_0, .string a1_1, .slice A1_2 l1_2.length c1_2] 76 ?_; intro gb245 hg w8 hbox hb; have BK245 := am_ (hbox); have GE245 := gw_ HB hg; replace HB := bs_ HB hb; have NB244_245 := nl_ BK244 hg; have NB245_244 := ng_ BK244 hg; replace BK244 := bb_ BK244 hb; clear hb hbox hg; have hnb9 := NB244_245.out; have hnc9 := NB245_244.out; obtain ⟨hcz10_0, hcz10_1, hcz10_2, hfz10_0, hfz10_1, hfz10_2⟩ := bR BK244.out; obtain ⟨hcz11_0, hcz11_1, hcz11_2, hfz11_0, hfz11_1, hfz11_2⟩ := bR BK245.out) | ((with_reducible refine gt_ 19 ?_); refine gB_ 19 Tryz.func33 (aY.calls k _ _ l0_2 _ _ l1_2 true _ (kc_ HR0_2 HB) HC0_2.out (kc_ HR1_2 HB) HC1_2.out A5.out) ?_; intro w12 hb; replace HB := bs_ HB hb; (try clear hb)))
    go_ret
    exact ⟨u0_, bw_ HB⟩
  ·rw [if_neg c4] at H; have c4b0 := cU c4; have c4b1 := cT c4; obtain rfl := si_ H; go_enter Tryz.func123, Tryz.ntmps123
   go_wp2_with (first | ((with_reducible refine gt_ 2 ?_); refine bx_ 2 #[.string a0_0, .string a0_1, .slice A0_2 l0_2.length c0_2] 76 ?_; intro gb244 hg w19 hbox hb; have BK244 := am_ (hbox); have GE244 := gw_ HB hg; replace HB := bs_ HB hb; clear hb hbox hg) | ((with_reducible refine gt_ 3 ?_); refine bx_ 3 #[.string a1_0, .string a1_1, .slice A1_2 l1_2.length c1_2] 76 ?_; intro gb245 hg w20 hbox hb; have BK245 := am_ (hbox); have GE245 := gw_ HB hg; replace HB := bs_ HB hb; have NB244_245 := nl_ BK244 hg; have NB245_244 := ng_ BK244 hg; replace BK244 := bb_ BK244 hb; clear hb hbox hg; have hnb21 := NB244_245.out; have hnc21 := NB245_244.out; obtain ⟨hcz22_0, hcz22_1, hcz22_2, hfz22_0, hfz22_1, hfz22_2⟩ := bR BK244.out; obtain ⟨hcz23_0, hcz23_1, hcz23_2, hfz23_0, hfz23_1, hfz23_2⟩ := bR BK245.out))
   go_ret
   exact ⟨u0_, bw_ HB⟩
 ·rw [if_neg c3] at H; have c3b0 := cU c3; have c3b1 := cT c3; obtain rfl := si_ H; go_enter Tryz.func123, Tryz.ntmps123
  go_wp2_with (first | ((with_reducible refine gt_ 2 ?_); refine bx_ 2 #[.string a0_0, .string a0_1, .slice A0_2 l0_2.length c0_2] 76 ?_; intro gb244 hg w24 hbox hb; have BK244 := am_ (hbox); have GE244 := gw_ HB hg; replace HB := bs_ HB hb; clear hb hbox hg) | ((with_reducible refine gt_ 3 ?_); refine bx_ 3 #[.string a1_0, .string a1_1, .slice A1_2 l1_2.length c1_2] 76 ?_; intro gb245 hg w25 hbox hb; have BK245 := am_ (hbox); have GE245 := gw_ HB hg; replace HB := bs_ HB hb; have NB244_245 := nl_ BK244 hg; have NB245_244 := ng_ BK244 hg; replace BK244 := bb_ BK244 hb; clear hb hbox hg; have hnb26 := NB244_245.out; have hnc26 := NB245_244.out; obtain ⟨hcz27_0, hcz27_1, hcz27_2, hfz27_0, hfz27_1, hfz27_2⟩ := bR BK244.out; obtain ⟨hcz28_0, hcz28_1, hcz28_2, hfz28_0, hfz28_1, hfz28_2⟩ := bR BK245.out))
  go_ret
  exact ⟨u0_, bw_ HB⟩
def aI.l0 : Nat → List (S76) → List (S76) → Int → Option (Bool)
 | 0, _, _, _ => none
 | k + 1, x0, x1, x5 => if x5 < (x0.length : Int) then (if 0 ≤ x5 then (if x5 < (x1.length : Int) then ((dT.f k ((aq x0 x5).f0) ((aq x0 x5).f1) ((aq x0 x5).f2) ((aq x1 x5).f0) ((aq x1 x5).f1) ((aq x1 x5).f2)).bind fun t249 => (if t249 = true then (aI.l0 k x0 x1 (wrap64 (x5 + 1))) else (some false))) else (none)) else (none)) else (some true)
def aI.f (k : Nat) (l0 : List (S76)) (l1 : List (S76)) : Option (Bool) := if (l0.length : Int) = (l1.length : Int) then (aI.l0 k l0 l1 0) else (some false)
def aI.T6 : Bool × List (List Nat × List Nat) := (true, [([], []), ([], []), ([0, 1], [0, 1]), ([2], [2]), ([], []), ([], []), ([4, 5], [4, 5]), ([6], [6]), ([3, 7], [3, 7]), ([8], [8])])
def aI.B6 : List Nat := [0, 0, 3, 7, 0, 0, 48, 112, 255, 511]
theorem aI.tab6 : dw .any (fm Tryz.f72 6) = aI.T6 := by kernel_rfl
theorem aI.bits6 : de aI.T6.2 aI.B6 = true := by kernel_rfl
theorem aI.calls (k : Nat) (A0 : Option Addr) (c0 : Nat) (l0 : List (S76)) (A1 : Option Addr) (c1 : Nat) (l1 : List (S76)) (r : Bool) (w : World) (hr0 : Kd.C k76 w A0 l0.length l0) (hc0 : l0.length ≤ c0) (hr1 : Kd.C k76 w A1 l1.length l1) (hc1 : l1.length ≤ c1) (h : aI.f k l0 l1 = some r) :
  Calls Tryz.prog 72 #[.slice A0 l0.length c0, .slice A1 l1.length c1] w fun e w' => e = .returned (.bool r) ∧ Below w.heap.size w w' := by
 have hu76 := Tryz.underlying76; have HR0 := am_ hr0; have HC0 := am_ hc0; clear hr0 hc0; have HR1 := am_ hr1; have HC1 := am_ hc1; clear hr1 hc1; have HB := am_ (Below.refl w.heap.size w); have H := h; clear h; unfold aI.f at H
 by_cases c3 : (l0.length : Int) = (l1.length : Int)
 ·rw [if_pos c3] at H; have c3b0 := cV c3; have c3b1 := cW c3; have c3b2 : (l0.length == l1.length) = true := by first | simpa using c3 | (simp at c3 ⊢; omega)
  clear c3; have H' := am_ H; clear H; go_enter Tryz.func72, Tryz.ntmps72
  go_wp2; go_loopg [5] k (fun kq v5 w' => ∃ (x5_1 : Int), v5 = .int .i64 x5_1 ∧ aa (aI.l0 kq l0 l1 x5_1 = some r) ∧ aa (kq ≤ k) ∧ aa (Below w.heap.size w w'))
  case atStart => exact ⟨(0), u1_, H', ⟨Nat.le_refl _⟩, ⟨bw_ HB⟩⟩
  case round =>
   clear H'; try clear c1
   try clear c3
   try clear c3b0
   try clear c3b1
   try clear c3b2
   obtain ⟨x5_1, rfl, HA, HK1, HB⟩ := hrel; cases gk with
   | zero => exact absurd HA.out (by simp [aI.l0])
   | succ k1 =>
    have H := HA.out; clear HA; simp only [aI.l0] at H; by_cases c4 : x5_1 < (l0.length : Int)
    ·rw [if_pos c4] at H; have c4b0 := decide_eq_true c4; clear c4; obtain ⟨c5b0, H⟩ := gd_ H; obtain ⟨c6b0, H⟩ := gd_ H; obtain ⟨t249, A7, H⟩ := bi_ H; have HC_ := am_ H; clear H; try go_wp2
     replace HB := am_ (aN HB.out); obtain ⟨ad247, A247_2, c247_2, e247, hx247_0, hx247_1, hx247_2, hl247_2, hi247_2⟩ := e7 HR0.out x5_1 od_ od_; have hw247_2 := hx247_2; have hw247_1 := hx247_1; have hw247_0 := hx247_0; cases e247; replace hx247_0 := cb_ HB hx247_0; replace hx247_1 := cb_ HB hx247_1; replace hx247_2 := cb_ HB hx247_2; have HR247_2 := am_ hi247_2; have HC247_2 := am_ hl247_2; clear hi247_2 hl247_2; obtain ⟨p247, q247⟩ := pt_ x5_1 l0.length; obtain ⟨ad248, A248_2, c248_2, e248, hx248_0, hx248_1, hx248_2, hl248_2, hi248_2⟩ := e7 HR1.out x5_1 od_ od_; have hw248_2 := hx248_2; have hw248_1 := hx248_1; have hw248_0 := hx248_0; cases e248; replace hx248_0 := cb_ HB hx248_0; replace hx248_1 := cb_ HB hx248_1; replace hx248_2 := cb_ HB hx248_2; have HR248_2 := am_ hi248_2; have HC248_2 := am_ hl248_2; clear hi248_2 hl248_2; obtain ⟨p248, q248⟩ := pt_ x5_1 l1.length; refine dd (n := 10) (S := fun w' => w'.cell? (ad247.add ((x5_1).toNat * 3)) = some (.string ((aq l0 x5_1).f0)) ∧ w'.cell? ⟨(ad247.add ((x5_1).toNat * 3)).block, (ad247.add ((x5_1).toNat * 3)).off + 1, none⟩ = some (.string ((aq l0 x5_1).f1)) ∧ w'.cell? ⟨(ad247.add ((x5_1).toNat * 3)).block, (ad247.add ((x5_1).toNat * 3)).off + 2, none⟩ = some (.slice A247_2 ((aq l0 x5_1).f2).length c247_2) ∧ w'.cell? (ad248.add ((x5_1).toNat * 3)) = some (.string ((aq l1 x5_1).f0)) ∧ w'.cell? ⟨(ad248.add ((x5_1).toNat * 3)).block, (ad248.add ((x5_1).toNat * 3)).off + 1, none⟩ = some (.string ((aq l1 x5_1).f1)) ∧ w'.cell? ⟨(ad248.add ((x5_1).toNat * 3)).block, (ad248.add ((x5_1).toNat * 3)).off + 2, none⟩ = some (.slice A248_2 ((aq l1 x5_1).f2).length c248_2)) (ds := []) (bm_ 10 0) bY rfl rfl ⟨(cc_ HB hw247_0), (cc_ HB hw247_1), (cc_ HB hw247_2), (cc_ HB hw248_0), (cc_ HB hw248_1), (cc_ HB hw248_2)⟩ (fun hHeld => ?_); refine bH aI.tab6 aI.bits6 (fun HT_ HW_ => ?_); generalize wr.drew = w11 at HB HR247_2 HR248_2 hx247_0 hx247_1 hx247_2 hx248_0 hx248_1 hx248_2 hHeld ⊢; refine pv_ 0 17 ?_; refine pv_ 1 18 ?_; refine pv_ 2 19 ?_; refine pv_ 4 21 ?_; refine pv_ 5 22 ?_; refine pv_ 6 23 ?_; refine tv_ 3 20 ?_; refine tv_ 7 24 ?_; refine ov_ 8 25 (fun K hK => ?_); refine oB_ Tryz.func123 (dT.calls k1 ((aq l0 x5_1).f0) ((aq l0 x5_1).f1) _ _ ((aq l0 x5_1).f2) ((aq l1 x5_1).f0) ((aq l1 x5_1).f1) _ _ ((aq l1 x5_1).f2) t249 _ (kc_ HR247_2 HB) HC247_2.out (kc_ HR248_2 HB) HC248_2.out A7.out) ?_; intro w12 hb; replace HB := bs_ HB hb; (try clear hb)
     refine hK.out _ _ ⟨(cc_ HB hw247_0), (cc_ HB hw247_1), (cc_ HB hw247_2), (cc_ HB hw248_0), (cc_ HB hw248_1), (cc_ HB hw248_2)⟩ (fun hHeld => ?_); clear hK K; refine nm_ ?_; refine pv_ 9 26 ?_; refine dn_ HT_ ?_; have H := HC_.out; clear HC_; cases t249
     ·replace H := hf_ H; obtain rfl := si_ H; try go_wp2
      go_ret
      exact ⟨u0_, bw_ HB⟩
     ·replace H := ht_ H; have H' := am_ H; clear H; try go_wp2
      go_roundg k1
      case measure => have := HK1.out; omega
      case rel => exact ⟨(wrap64 (x5_1 + 1)), u1_, H', ⟨dm⟩, ⟨bw_ HB⟩⟩
    ·rw [if_neg c4] at H; have c4b0 := decide_eq_false c4; clear c4; obtain rfl := si_ H; go_wp2; go_ret
     exact ⟨u0_, bw_ HB⟩
 ·rw [if_neg c3] at H; have c3b0 := cU c3; have c3b1 := cT c3; have c3b2 : (l0.length == l1.length) = false := by first | simpa using c3 | (simp at c3 ⊢; omega)
  obtain rfl := si_ H; go_enter Tryz.func72, Tryz.ntmps72
  go_wp2; go_ret
  exact ⟨u0_, bw_ HB⟩
def dR.f (k : Nat) (l0_0 : List (S92)) (l0_1 : List (S46)) (l0_2 : List (S76)) (a0_3 : Int) (l1_0 : List (S92)) (l1_1 : List (S46)) (l1_2 : List (S76)) (a1_3 : Int) : Option (Bool) := (aD.f k l0_0 l1_0).bind fun t252 => (if t252 = true then ((a8.f k l0_1 l1_1).bind fun t253 => (if t253 = true then ((aI.f k l0_2 l1_2).bind fun t254 => (if t254 = true then (if a0_3 = a1_3 then (some true) else (some false)) else (some false))) else (some false))) else (some false))
theorem dR.calls (k : Nat) (A0_0 : Option Addr) (c0_0 : Nat) (l0_0 : List (S92)) (A0_1 : Option Addr) (c0_1 : Nat) (l0_1 : List (S46)) (A0_2 : Option Addr) (c0_2 : Nat) (l0_2 : List (S76)) (a0_3 : Int) (A1_0 : Option Addr) (c1_0 : Nat) (l1_0 : List (S92)) (A1_1 : Option Addr) (c1_1 : Nat) (l1_1 : List (S46)) (A1_2 : Option Addr) (c1_2 : Nat) (l1_2 : List (S76)) (a1_3 : Int) (r : Bool) (w : World) (hr0_0 : Kd.C k92 w A0_0 l0_0.length l0_0) (hc0_0 : l0_0.length ≤ c0_0) (hr0_1 : Kd.C k46 w A0_1 l0_1.length l0_1) (hc0_1 : l0_1.length ≤ c0_1) (hr0_2 : Kd.C k76 w A0_2 l0_2.length l0_2) (hc0_2 : l0_2.length ≤ c0_2) (hr1_0 : Kd.C k92 w A1_0 l1_0.length l1_0) (hc1_0 : l1_0.length ≤ c1_0) (hr1_1 : Kd.C k46 w A1_1 l1_1.length l1_1) (hc1_1 : l1_1.length ≤ c1_1) (hr1_2 : Kd.C k76 w A1_2 l1_2.length l1_2) (hc1_2 : l1_2.length ≤ c1_2) (h : dR.f k l0_0 l0_1 l0_2 a0_3 l1_0 l1_1 l1_2 a1_3 = some r) :
  Calls Tryz.prog 26 #[.agg #[.slice A0_0 l0_0.length c0_0, .slice A0_1 l0_1.length c0_1, .slice A0_2 l0_2.length c0_2, .int .i64 a0_3], .agg #[.slice A1_0 l1_0.length c1_0, .slice A1_1 l1_1.length c1_1, .slice A1_2 l1_2.length c1_2, .int .i64 a1_3]] w fun e w' => e = .returned (.bool r) ∧ Below w.heap.size w w' := by
 have hu27 := Tryz.underlying27; have HR0_0 := am_ hr0_0; have HC0_0 := am_ hc0_0; clear hr0_0 hc0_0; have HR0_1 := am_ hr0_1; have HC0_1 := am_ hc0_1; clear hr0_1 hc0_1; have HR0_2 := am_ hr0_2; have HC0_2 := am_ hc0_2; clear hr0_2 hc0_2; have HR1_0 := am_ hr1_0; have HC1_0 := am_ hc1_0; clear hr1_0 hc1_0; have HR1_1 := am_ hr1_1; have HC1_1 := am_ hc1_1; clear hr1_1 hc1_1; have HR1_2 := am_ hr1_2; have HC1_2 := am_ hc1_2; clear hr1_2 hc1_2; have HB := am_ (Below.refl w.heap.size w); have H := h; clear h; unfold dR.f at H
 obtain ⟨t252, A3, H⟩ := bi_ H; cases t252
 ·replace H := hf_ H; obtain rfl := si_ H; go_enter Tryz.func26, Tryz.ntmps26
  go_wp2_with (first | ((with_reducible refine gt_ 2 ?_); refine bx_ 2 #[.slice A0_0 l0_0.length c0_0, .slice A0_1 l0_1.length c0_1, .slice A0_2 l0_2.length c0_2, .int .i64 a0_3] 27 ?_; intro gb250 hg w59 hbox hb; have BK250 := am_ (hbox); have GE250 := gw_ HB hg; replace HB := bs_ HB hb; clear hb hbox hg) | ((with_reducible refine gt_ 3 ?_); refine bx_ 3 #[.slice A1_0 l1_0.length c1_0, .slice A1_1 l1_1.length c1_1, .slice A1_2 l1_2.length c1_2, .int .i64 a1_3] 27 ?_; intro gb251 hg w60 hbox hb; have BK251 := am_ (hbox); have GE251 := gw_ HB hg; replace HB := bs_ HB hb; have NB250_251 := nl_ BK250 hg; have NB251_250 := ng_ BK250 hg; replace BK250 := bb_ BK250 hb; clear hb hbox hg; have hnb61 := NB250_251.out; have hnc61 := NB251_250.out; obtain ⟨hcz62_0, hcz62_1, hcz62_2, hcz62_3, hfz62_0, hfz62_1, hfz62_2, hfz62_3⟩ := cu BK250.out; obtain ⟨hcz63_0, hcz63_1, hcz63_2, hcz63_3, hfz63_0, hfz63_1, hfz63_2, hfz63_3⟩ := cu BK251.out) | ((with_reducible refine gt_ 9 ?_); refine gB_ 9 Tryz.func70 (aD.calls k _ _ l0_0 _ _ l1_0 false _ (kc_ HR0_0 HB) HC0_0.out (kc_ HR1_0 HB) HC1_0.out A3.out) ?_; intro w64 hb; replace HB := bs_ HB hb; (try clear hb)))
  go_ret
  exact ⟨u0_, bw_ HB⟩
 ·replace H := ht_ H; obtain ⟨t253, A5, H⟩ := bi_ H; cases t253
  ·replace H := hf_ H; obtain rfl := si_ H; go_enter Tryz.func26, Tryz.ntmps26
   go_wp2_with (first | ((with_reducible refine gt_ 2 ?_); refine bx_ 2 #[.slice A0_0 l0_0.length c0_0, .slice A0_1 l0_1.length c0_1, .slice A0_2 l0_2.length c0_2, .int .i64 a0_3] 27 ?_; intro gb250 hg w50 hbox hb; have BK250 := am_ (hbox); have GE250 := gw_ HB hg; replace HB := bs_ HB hb; clear hb hbox hg) | ((with_reducible refine gt_ 3 ?_); refine bx_ 3 #[.slice A1_0 l1_0.length c1_0, .slice A1_1 l1_1.length c1_1, .slice A1_2 l1_2.length c1_2, .int .i64 a1_3] 27 ?_; intro gb251 hg w51 hbox hb; have BK251 := am_ (hbox); have GE251 := gw_ HB hg; replace HB := bs_ HB hb; have NB250_251 := nl_ BK250 hg; have NB251_250 := ng_ BK250 hg; replace BK250 := bb_ BK250 hb; clear hb hbox hg; have hnb52 := NB250_251.out; have hnc52 := NB251_250.out; obtain ⟨hcz53_0, hcz53_1, hcz53_2, hcz53_3, hfz53_0, hfz53_1, hfz53_2, hfz53_3⟩ := cu BK250.out; obtain ⟨hcz54_0, hcz54_1, hcz54_2, hcz54_3, hfz54_0, hfz54_1, hfz54_2, hfz54_3⟩ := cu BK251.out) | ((with_reducible refine gt_ 9 ?_); refine gB_ 9 Tryz.func70 (aD.calls k _ _ l0_0 _ _ l1_0 true _ (kc_ HR0_0 HB) HC0_0.out (kc_ HR1_0 HB) HC1_0.out A3.out) ?_; intro w55 hb; replace BK250 := bb_ BK250 hb; replace BK251 := bb_ BK251 hb; replace HB := bs_ HB hb; (try clear hb); obtain ⟨hcz56_0, hcz56_1, hcz56_2, hcz56_3, hfz56_0, hfz56_1, hfz56_2, hfz56_3⟩ := cu BK250.out; obtain ⟨hcz57_0, hcz57_1, hcz57_2, hcz57_3, hfz57_0, hfz57_1, hfz57_2, hfz57_3⟩ := cu BK251.out) | ((with_reducible refine gt_ 15 ?_); refine gB_ 15 Tryz.func71 (a8.calls k _ _ l0_1 _ _ l1_1 false _ (kc_ HR0_1 HB) HC0_1.out (kc_ HR1_1 HB) HC1_1.out A5.out) ?_; intro w58 hb; replace HB := bs_ HB hb; (try clear hb)))
   go_ret
   exact ⟨u0_, bw_ HB⟩
  ·replace H := ht_ H; obtain ⟨t254, A7, H⟩ := bi_ H; cases t254
   ·replace H := hf_ H; obtain rfl := si_ H; go_enter Tryz.func26, Tryz.ntmps26
    go_wp2_with (first | ((with_reducible refine gt_ 2 ?_); refine bx_ 2 #[.slice A0_0 l0_0.length c0_0, .slice A0_1 l0_1.length c0_1, .slice A0_2 l0_2.length c0_2, .int .i64 a0_3] 27 ?_; intro gb250 hg w38 hbox hb; have BK250 := am_ (hbox); have GE250 := gw_ HB hg; replace HB := bs_ HB hb; clear hb hbox hg) | ((with_reducible refine gt_ 3 ?_); refine bx_ 3 #[.slice A1_0 l1_0.length c1_0, .slice A1_1 l1_1.length c1_1, .slice A1_2 l1_2.length c1_2, .int .i64 a1_3] 27 ?_; intro gb251 hg w39 hbox hb; have BK251 := am_ (hbox); have GE251 := gw_ HB hg; replace HB := bs_ HB hb; have NB250_251 := nl_ BK250 hg; have NB251_250 := ng_ BK250 hg; replace BK250 := bb_ BK250 hb; clear hb hbox hg; have hnb40 := NB250_251.out; have hnc40 := NB251_250.out; obtain ⟨hcz41_0, hcz41_1, hcz41_2, hcz41_3, hfz41_0, hfz41_1, hfz41_2, hfz41_3⟩ := cu BK250.out; obtain ⟨hcz42_0, hcz42_1, hcz42_2, hcz42_3, hfz42_0, hfz42_1, hfz42_2, hfz42_3⟩ := cu BK251.out) | ((with_reducible refine gt_ 9 ?_); refine gB_ 9 Tryz.func70 (aD.calls k _ _ l0_0 _ _ l1_0 true _ (kc_ HR0_0 HB) HC0_0.out (kc_ HR1_0 HB) HC1_0.out A3.out) ?_; intro w43 hb; replace BK250 := bb_ BK250 hb; replace BK251 := bb_ BK251 hb; replace HB := bs_ HB hb; (try clear hb); obtain ⟨hcz44_0, hcz44_1, hcz44_2, hcz44_3, hfz44_0, hfz44_1, hfz44_2, hfz44_3⟩ := cu BK250.out; obtain ⟨hcz45_0, hcz45_1, hcz45_2, hcz45_3, hfz45_0, hfz45_1, hfz45_2, hfz45_3⟩ := cu BK251.out) | ((with_reducible refine gt_ 15 ?_); refine gB_ 15 Tryz.func71 (a8.calls k _ _ l0_1 _ _ l1_1 true _ (kc_ HR0_1 HB) HC0_1.out (kc_ HR1_1 HB) HC1_1.out A5.out) ?_; intro w46 hb; replace BK250 := bb_ BK250 hb; replace BK251 := bb_ BK251 hb; replace HB := bs_ HB hb; (try clear hb); obtain ⟨hcz47_0, hcz47_1, hcz47_2, hcz47_3, hfz47_0, hfz47_1, hfz47_2, hfz47_3⟩ := cu BK250.out; obtain ⟨hcz48_0, hcz48_1, hcz48_2, hcz48_3, hfz48_0, hfz48_1, hfz48_2, hfz48_3⟩ := cu BK251.out) | ((with_reducible refine gt_ 21 ?_); refine gB_ 21 Tryz.func72 (aI.calls k _ _ l0_2 _ _ l1_2 false _ (kc_ HR0_2 HB) HC0_2.out (kc_ HR1_2 HB) HC1_2.out A7.out) ?_; intro w49 hb; replace HB := bs_ HB hb; (try clear hb)))
    go_ret
    exact ⟨u0_, bw_ HB⟩
   ·replace H := ht_ H; by_cases c9 : a0_3 = a1_3
    ·rw [if_pos c9] at H; have c9b0 := cV c9; have c9b1 := cW c9; clear c9; obtain rfl := si_ H; go_enter Tryz.func26, Tryz.ntmps26
     go_wp2_with (first | ((with_reducible refine gt_ 2 ?_); refine bx_ 2 #[.slice A0_0 l0_0.length c0_0, .slice A0_1 l0_1.length c0_1, .slice A0_2 l0_2.length c0_2, .int .i64 a0_3] 27 ?_; intro gb250 hg w10 hbox hb; have BK250 := am_ (hbox); have GE250 := gw_ HB hg; replace HB := bs_ HB hb; clear hb hbox hg) | ((with_reducible refine gt_ 3 ?_); refine bx_ 3 #[.slice A1_0 l1_0.length c1_0, .slice A1_1 l1_1.length c1_1, .slice A1_2 l1_2.length c1_2, .int .i64 a1_3] 27 ?_; intro gb251 hg w11 hbox hb; have BK251 := am_ (hbox); have GE251 := gw_ HB hg; replace HB := bs_ HB hb; have NB250_251 := nl_ BK250 hg; have NB251_250 := ng_ BK250 hg; replace BK250 := bb_ BK250 hb; clear hb hbox hg; have hnb12 := NB250_251.out; have hnc12 := NB251_250.out; obtain ⟨hcz13_0, hcz13_1, hcz13_2, hcz13_3, hfz13_0, hfz13_1, hfz13_2, hfz13_3⟩ := cu BK250.out; obtain ⟨hcz14_0, hcz14_1, hcz14_2, hcz14_3, hfz14_0, hfz14_1, hfz14_2, hfz14_3⟩ := cu BK251.out) | ((with_reducible refine gt_ 9 ?_); refine gB_ 9 Tryz.func70 (aD.calls k _ _ l0_0 _ _ l1_0 true _ (kc_ HR0_0 HB) HC0_0.out (kc_ HR1_0 HB) HC1_0.out A3.out) ?_; intro w15 hb; replace BK250 := bb_ BK250 hb; replace BK251 := bb_ BK251 hb; replace HB := bs_ HB hb; (try clear hb); obtain ⟨hcz16_0, hcz16_1, hcz16_2, hcz16_3, hfz16_0, hfz16_1, hfz16_2, hfz16_3⟩ := cu BK250.out; obtain ⟨hcz17_0, hcz17_1, hcz17_2, hcz17_3, hfz17_0, hfz17_1, hfz17_2, hfz17_3⟩ := cu BK251.out) | ((with_reducible refine gt_ 15 ?_); refine gB_ 15 Tryz.func71 (a8.calls k _ _ l0_1 _ _ l1_1 true _ (kc_ HR0_1 HB) HC0_1.out (kc_ HR1_1 HB) HC1_1.out A5.out) ?_; intro w18 hb; replace BK250 := bb_ BK250 hb; replace BK251 := bb_ BK251 hb; replace HB := bs_ HB hb; (try clear hb); obtain ⟨hcz19_0, hcz19_1, hcz19_2, hcz19_3, hfz19_0, hfz19_1, hfz19_2, hfz19_3⟩ := cu BK250.out; obtain ⟨hcz20_0, hcz20_1, hcz20_2, hcz20_3, hfz20_0, hfz20_1, hfz20_2, hfz20_3⟩ := cu BK251.out) | ((with_reducible refine gt_ 21 ?_); refine gB_ 21 Tryz.func72 (aI.calls k _ _ l0_2 _ _ l1_2 true _ (kc_ HR0_2 HB) HC0_2.out (kc_ HR1_2 HB) HC1_2.out A7.out) ?_; intro w21 hb; replace BK250 := bb_ BK250 hb; replace BK251 := bb_ BK251 hb; replace HB := bs_ HB hb; (try clear hb); obtain ⟨hcz22_0, hcz22_1, hcz22_2, hcz22_3, hfz22_0, hfz22_1, hfz22_2, hfz22_3⟩ := cu BK250.out; obtain ⟨hcz23_0, hcz23_1, hcz23_2, hcz23_3, hfz23_0, hfz23_1, hfz23_2, hfz23_3⟩ := cu BK251.out))
     go_ret
     exact ⟨u0_, bw_ HB⟩
    ·rw [if_neg c9] at H; have c9b0 := cU c9; have c9b1 := cT c9; obtain rfl := si_ H; go_enter Tryz.func26, Tryz.ntmps26
     go_wp2_with (first | ((with_reducible refine gt_ 2 ?_); refine bx_ 2 #[.slice A0_0 l0_0.length c0_0, .slice A0_1 l0_1.length c0_1, .slice A0_2 l0_2.length c0_2, .int .i64 a0_3] 27 ?_; intro gb250 hg w24 hbox hb; have BK250 := am_ (hbox); have GE250 := gw_ HB hg; replace HB := bs_ HB hb; clear hb hbox hg) | ((with_reducible refine gt_ 3 ?_); refine bx_ 3 #[.slice A1_0 l1_0.length c1_0, .slice A1_1 l1_1.length c1_1, .slice A1_2 l1_2.length c1_2, .int .i64 a1_3] 27 ?_; intro gb251 hg w25 hbox hb; have BK251 := am_ (hbox); have GE251 := gw_ HB hg; replace HB := bs_ HB hb; have NB250_251 := nl_ BK250 hg; have NB251_250 := ng_ BK250 hg; replace BK250 := bb_ BK250 hb; clear hb hbox hg; have hnb26 := NB250_251.out; have hnc26 := NB251_250.out; obtain ⟨hcz27_0, hcz27_1, hcz27_2, hcz27_3, hfz27_0, hfz27_1, hfz27_2, hfz27_3⟩ := cu BK250.out; obtain ⟨hcz28_0, hcz28_1, hcz28_2, hcz28_3, hfz28_0, hfz28_1, hfz28_2, hfz28_3⟩ := cu BK251.out) | ((with_reducible refine gt_ 9 ?_); refine gB_ 9 Tryz.func70 (aD.calls k _ _ l0_0 _ _ l1_0 true _ (kc_ HR0_0 HB) HC0_0.out (kc_ HR1_0 HB) HC1_0.out A3.out) ?_; intro w29 hb; replace BK250 := bb_ BK250 hb; replace BK251 := bb_ BK251 hb; replace HB := bs_ HB hb; (try clear hb); obtain ⟨hcz30_0, hcz30_1, hcz30_2, hcz30_3, hfz30_0, hfz30_1, hfz30_2, hfz30_3⟩ := cu BK250.out; obtain ⟨hcz31_0, hcz31_1, hcz31_2, hcz31_3, hfz31_0, hfz31_1, hfz31_2, hfz31_3⟩ := cu BK251.out) | ((with_reducible refine gt_ 15 ?_); refine gB_ 15 Tryz.func71 (a8.calls k _ _ l0_1 _ _ l1_1 true _ (kc_ HR0_1 HB) HC0_1.out (kc_ HR1_1 HB) HC1_1.out A5.out) ?_; intro w32 hb; replace BK250 := bb_ BK250 hb; replace BK251 := bb_ BK251 hb; replace HB := bs_ HB hb; (try clear hb); obtain ⟨hcz33_0, hcz33_1, hcz33_2, hcz33_3, hfz33_0, hfz33_1, hfz33_2, hfz33_3⟩ := cu BK250.out; obtain ⟨hcz34_0, hcz34_1, hcz34_2, hcz34_3, hfz34_0, hfz34_1, hfz34_2, hfz34_3⟩ := cu BK251.out) | ((with_reducible refine gt_ 21 ?_); refine gB_ 21 Tryz.func72 (aI.calls k _ _ l0_2 _ _ l1_2 true _ (kc_ HR0_2 HB) HC0_2.out (kc_ HR1_2 HB) HC1_2.out A7.out) ?_; intro w35 hb; replace BK250 := bb_ BK250 hb; replace BK251 := bb_ BK251 hb; replace HB := bs_ HB hb; (try clear hb); obtain ⟨hcz36_0, hcz36_1, hcz36_2, hcz36_3, hfz36_0, hfz36_1, hfz36_2, hfz36_3⟩ := cu BK250.out; obtain ⟨hcz37_0, hcz37_1, hcz37_2, hcz37_3, hfz37_0, hfz37_1, hfz37_2, hfz37_3⟩ := cu BK251.out))
     go_ret
     exact ⟨u0_, bw_ HB⟩
def b8.f (a0 : Int) (a1 : Int) (a2 : Int) : Option (Bool) := if a0 ≥ a1 then (some (decide (a0 ≤ a2))) else (some false)
theorem b8.calls (a0 : Int) (a1 : Int) (a2 : Int) (r : Bool) (w : World) (h : b8.f a0 a1 a2 = some r) :
  Calls Tryz.prog 52 #[.int .i64 a0, .int .i64 a1, .int .i64 a2] w fun e w' => e = .returned (.bool r) ∧ Drawn0 w w' := by
 have H := h; clear h; unfold b8.f at H
 by_cases c4 : a0 ≥ a1
 ·rw [if_pos c4] at H; have c4b0 : decide (a1 ≤ a0) = true := decide_eq_true c4; clear c4; obtain rfl := si_ H; go_enter Tryz.func52, Tryz.ntmps52
  go_wp2; go_ret
  exact ⟨u4_, u3_⟩
 ·rw [if_neg c4] at H; have c4b0 : decide (a1 ≤ a0) = false := decide_eq_false c4; clear c4; obtain rfl := si_ H; go_enter Tryz.func52, Tryz.ntmps52
  go_wp2; go_ret
  exact ⟨u4_, u3_⟩
def ba.l0 : Nat → List (S92) → ByteArray → Int → Option (Int)
 | 0, _, _, _ => none
 | k + 1, x0, x1, x5 => if x5 < (x0.length : Int) then (if 0 ≤ x5 then (if ((ao x0 x5).f0).toList = x1.toList then (some x5) else (ba.l0 k x0 x1 (wrap64 (x5 + 1)))) else (none)) else (some (-1))
def ba.f (k : Nat) (l0 : List (S92)) (a1 : ByteArray) : Option (Int) := ba.l0 k l0 a1 0
theorem ba.calls (k : Nat) (A0 : Option Addr) (c0 : Nat) (l0 : List (S92)) (a1 : ByteArray) (r : Int) (w : World) (hr0 : Kd.C k92 w A0 l0.length l0) (hc0 : l0.length ≤ c0) (h : ba.f k l0 a1 = some r) :
  Calls Tryz.prog 96 #[.slice A0 l0.length c0, .string a1] w fun e w' => e = .returned (.int .i64 r) ∧ Drawn0 w w' := by
 have HR0 := am_ hr0; have HC0 := am_ hc0; clear hr0 hc0; have H := h; clear h; unfold ba.f at H
 have H' := am_ H; clear H; go_enter Tryz.func96, Tryz.ntmps96
 go_wp2; go_loopg [5] k (fun kq v5 w' => ∃ (x5_1 : Int), v5 = .int .i64 x5_1 ∧ aa (ba.l0 kq l0 a1 x5_1 = some r) ∧ aa (kq ≤ k) ∧ Drawn0 w w')
 case atStart => exact ⟨(0), u1_, H', ⟨Nat.le_refl _⟩, u3_⟩
 case round =>
  clear H'; obtain ⟨x5_1, rfl, HA, HK1, ⟨m1, rfl⟩⟩ := hrel; cases gk with
  | zero => exact absurd HA.out (by simp [ba.l0])
  | succ k1 =>
   have H := HA.out; clear HA; simp only [ba.l0] at H; by_cases c3 : x5_1 < (l0.length : Int)
   ·rw [if_pos c3] at H; have c3b0 := decide_eq_true c3; clear c3; obtain ⟨c4b0, H⟩ := gd_ H; have HC_ := am_ H; clear H; obtain ⟨ad255, e255, hx255_0, hx255_1, hx255_2⟩ := go HR0.out x5_1 od_ od_; cases e255; obtain ⟨p255, q255⟩ := pt_ x5_1 l0.length; have H := HC_.out; clear HC_; by_cases c5 : ((ao l0 x5_1).f0).toList = a1.toList
    ·rw [if_pos c5] at H; have c5b0 := cV c5; have c5b1 := cW c5; clear c5; obtain rfl := si_ H; (first | rw [c5b0] | (simp only [ap, au]; rw [c5b0]) | skip)
     go_wp2; go_ret
     exact ⟨u4_, u3_⟩
    ·rw [if_neg c5] at H; have c5b0 := cU c5; have c5b1 := cT c5; have H' := am_ H; clear H; (first | rw [c5b0] | (simp only [ap, au]; rw [c5b0]) | skip)
     go_wp2; go_roundg k1
     case measure => have := HK1.out; omega
     case rel => exact ⟨(wrap64 (x5_1 + 1)), u1_, H', ⟨dm⟩, u3_⟩
   ·rw [if_neg c3] at H; have c3b0 := decide_eq_false c3; clear c3; obtain rfl := si_ H; go_wp2; go_ret
    exact ⟨u4_, u3_⟩
def aJ.l0 : Nat → ByteArray → Int → Option (Bool)
 | 0, _, _ => none
 | k + 1, x0, x3 => if x3 < (x0.size : Int) then (if 0 ≤ x3 then (if (bt x0 x3) ≥ 97 then (if ((bt x0 x3) ≤ 122) then (aJ.l0 k x0 (wrap64 (x3 + 1))) else (if x3 = 0 then (some false) else (if (bt x0 x3) < 48 then (some false) else (if (bt x0 x3) > 57 then (some false) else (aJ.l0 k x0 (wrap64 (x3 + 1))))))) else (if x3 = 0 then (some false) else (if (bt x0 x3) < 48 then (some false) else (if (bt x0 x3) > 57 then (some false) else (aJ.l0 k x0 (wrap64 (x3 + 1))))))) else (none)) else ((b8.f (x0.size : Int) 1 8).bind fun t256 => (some t256))
def aJ.f (k : Nat) (a0 : ByteArray) : Option (Bool) := aJ.l0 k a0 0
theorem aJ.calls (k : Nat) (a0 : ByteArray) (r : Bool) (w : World) (h : aJ.f k a0 = some r) :
  Calls Tryz.prog 99 #[.string a0] w fun e w' => e = .returned (.bool r) ∧ Drawn0 w w' := by
 have H := h; clear h; unfold aJ.f at H
 have H' := am_ H; clear H; go_enter Tryz.func99, Tryz.ntmps99
 go_wp2; go_loopg [3] k (fun kq v3 w' => ∃ (x3_1 : Int), v3 = .int .i64 x3_1 ∧ aa (aJ.l0 kq a0 x3_1 = some r) ∧ aa (kq ≤ k) ∧ Drawn0 w w')
 case atStart => exact ⟨(0), u1_, H', ⟨Nat.le_refl _⟩, u3_⟩
 case round =>
  clear H'; obtain ⟨x3_1, rfl, HA, HK1, ⟨m1, rfl⟩⟩ := hrel; cases gk with
  | zero => exact absurd HA.out (by simp [aJ.l0])
  | succ k1 =>
   have H := HA.out; clear HA; simp only [aJ.l0] at H; by_cases c2 : x3_1 < (a0.size : Int)
   ·rw [if_pos c2] at H; have c2b0 := decide_eq_true c2; clear c2; obtain ⟨c3b0, H⟩ := gd_ H; have HC_ := am_ H; clear H; obtain ⟨p4, q4⟩ := pq_ x3_1 a0.size; have hx4 := d6 a0 x3_1; obtain ⟨p4, q4⟩ := tt_ p4 q4; have H := HC_.out; clear HC_; by_cases c5 : (bt a0 x3_1) ≥ 97
    ·rw [if_pos c5] at H; have c5b0 : decide (97 ≤ (bt a0 x3_1)) = true := decide_eq_true c5; clear c5; have HC_ := am_ H; clear H; (first | rw [c5b0] | (simp only [ap, au]; rw [c5b0]) | skip)
     obtain ⟨p6, q6⟩ := pq_ x3_1 a0.size; have hx6 := d6 a0 x3_1; obtain ⟨p6, q6⟩ := tt_ p6 q6; have H := HC_.out; clear HC_; by_cases c7 : ((bt a0 x3_1) ≤ 122)
     ·rw [if_pos c7] at H; have c7b0 : decide ((bt a0 x3_1) ≤ 122) = true := decide_eq_true c7; clear c7; have H' := am_ H; clear H; (first | rw [c7b0] | (simp only [ap, au]; rw [c7b0]) | skip)
      go_wp2; go_roundg k1
      case measure => have := HK1.out; omega
      case rel => exact ⟨(wrap64 (x3_1 + 1)), u1_, H', ⟨dm⟩, u3_⟩
     ·rw [if_neg c7] at H; have c7b0 : decide ((bt a0 x3_1) ≤ 122) = false := decide_eq_false c7; clear c7; have HC_ := am_ H; clear H; (first | rw [c7b0] | (simp only [ap, au]; rw [c7b0]) | skip)
      have H := HC_.out; clear HC_; by_cases c8 : x3_1 = 0
      ·rw [if_pos c8] at H; have c8b0 := cV c8; have c8b1 := cW c8; clear c8; obtain rfl := si_ H; (first | rw [c8b0] | (simp only [ap, au]; rw [c8b0]) | skip)
       go_wp2; go_ret
       exact ⟨u4_, u3_⟩
      ·rw [if_neg c8] at H; have c8b0 := cU c8; have c8b1 := cT c8; have HC_ := am_ H; clear H; (first | rw [c8b0] | (simp only [ap, au]; rw [c8b0]) | skip)
       obtain ⟨p9, q9⟩ := pq_ x3_1 a0.size; have hx9 := d6 a0 x3_1; obtain ⟨p9, q9⟩ := tt_ p9 q9; have H := HC_.out; clear HC_; by_cases c10 : (bt a0 x3_1) < 48
       ·rw [if_pos c10] at H; have c10b0 := decide_eq_true c10; clear c10; obtain rfl := si_ H; (first | rw [c10b0] | (simp only [ap, au]; rw [c10b0]) | skip)
        go_wp2; go_ret
        exact ⟨u4_, u3_⟩
       ·rw [if_neg c10] at H; have c10b0 := decide_eq_false c10; clear c10; have HC_ := am_ H; clear H; (first | rw [c10b0] | (simp only [ap, au]; rw [c10b0]) | skip)
        obtain ⟨p11, q11⟩ := pq_ x3_1 a0.size; have hx11 := d6 a0 x3_1; obtain ⟨p11, q11⟩ := tt_ p11 q11; have H := HC_.out; clear HC_; by_cases c12 : (bt a0 x3_1) > 57
        ·rw [if_pos c12] at H; have c12b0 : decide (57 < (bt a0 x3_1)) = true := decide_eq_true c12; clear c12; obtain rfl := si_ H; (first | rw [c12b0] | (simp only [ap, au]; rw [c12b0]) | skip)
         go_wp2; go_ret
         exact ⟨u4_, u3_⟩
        ·rw [if_neg c12] at H; have c12b0 : decide (57 < (bt a0 x3_1)) = false := decide_eq_false c12; clear c12; have H' := am_ H; clear H; (first | rw [c12b0] | (simp only [ap, au]; rw [c12b0]) | skip)
         go_wp2; go_roundg k1
         case measure => have := HK1.out; omega
         case rel => exact ⟨(wrap64 (x3_1 + 1)), u1_, H', ⟨dm⟩, u3_⟩
    ·rw [if_neg c5] at H; have c5b0 : decide (97 ≤ (bt a0 x3_1)) = false := decide_eq_false c5; clear c5; have HC_ := am_ H; clear H; (first | rw [c5b0] | (simp only [ap, au]; rw [c5b0]) | skip)
     have H := HC_.out; clear HC_; by_cases c13 : x3_1 = 0
     ·rw [if_pos c13] at H; have c13b0 := cV c13; have c13b1 := cW c13; clear c13; obtain rfl := si_ H; (first | rw [c13b0] | (simp only [ap, au]; rw [c13b0]) | skip)
      go_wp2; go_ret
      exact ⟨u4_, u3_⟩
     ·rw [if_neg c13] at H; have c13b0 := cU c13; have c13b1 := cT c13; have HC_ := am_ H; clear H; (first | rw [c13b0] | (simp only [ap, au]; rw [c13b0]) | skip)
      obtain ⟨p14, q14⟩ := pq_ x3_1 a0.size; have hx14 := d6 a0 x3_1; obtain ⟨p14, q14⟩ := tt_ p14 q14; have H := HC_.out; clear HC_; by_cases c15 : (bt a0 x3_1) < 48
      ·rw [if_pos c15] at H; have c15b0 := decide_eq_true c15; clear c15; obtain rfl := si_ H; (first | rw [c15b0] | (simp only [ap, au]; rw [c15b0]) | skip)
       go_wp2; go_ret
       exact ⟨u4_, u3_⟩
      ·rw [if_neg c15] at H; have c15b0 := decide_eq_false c15; clear c15; have HC_ := am_ H; clear H; (first | rw [c15b0] | (simp only [ap, au]; rw [c15b0]) | skip)
       obtain ⟨p16, q16⟩ := pq_ x3_1 a0.size; have hx16 := d6 a0 x3_1; obtain ⟨p16, q16⟩ := tt_ p16 q16; have H := HC_.out; clear HC_; by_cases c17 : (bt a0 x3_1) > 57
       ·rw [if_pos c17] at H; have c17b0 : decide (57 < (bt a0 x3_1)) = true := decide_eq_true c17; clear c17; obtain rfl := si_ H; (first | rw [c17b0] | (simp only [ap, au]; rw [c17b0]) | skip)
        go_wp2; go_ret
        exact ⟨u4_, u3_⟩
       ·rw [if_neg c17] at H; have c17b0 : decide (57 < (bt a0 x3_1)) = false := decide_eq_false c17; clear c17; have H' := am_ H; clear H; (first | rw [c17b0] | (simp only [ap, au]; rw [c17b0]) | skip)
        go_wp2; go_roundg k1
        case measure => have := HK1.out; omega
        case rel => exact ⟨(wrap64 (x3_1 + 1)), u1_, H', ⟨dm⟩, u3_⟩
   ·rw [if_neg c2] at H; have c2b0 := decide_eq_false c2; clear c2; obtain ⟨t256, A18, H⟩ := bi_ H; obtain rfl := si_ H; go_wp2_with (first | ((with_reducible refine gt_ 41 ?_); refine gD_ 41 Tryz.func52 (b8.calls (a0.size : Int) 1 8 t256 _ A18.out) ?_; intro nd))
    go_ret
    exact ⟨u4_, u3_⟩
mutual
def ay.l0 : Nat → List (S92) → Int → Option (Bool)
 | 0, _, _ => none
 | k + 1, x0, x3 => if x3 < (x0.length : Int) then (if 0 ≤ x3 then (if ((ao x0 x3).f1) = 1 then ((b8.f ((ao x0 x3).f2) 1 9).bind fun t260 => (ay.j1 k x0 x3 t260 ((ao x0 x3).f0) ((ao x0 x3).f1) ((ao x0 x3).f2))) else (ay.j1 k x0 x3 false ((ao x0 x3).f0) ((ao x0 x3).f1) ((ao x0 x3).f2))) else (none)) else ((b8.f (x0.length : Int) 1 4).bind fun t257 => (some t257))
def ay.j1 : Nat → List (S92) → Int → Bool → ByteArray → Int → Int → Option (Bool)
 | 0, _, _, _, _, _, _ => none
 | k + 1, x0, x3, x5, x260000, x260001, x260002 => (b8.f x260001 2 3).bind fun t261 => (if t261 = true then (ay.j2 k x0 x3 x5 (x260002 == 0) x260000 x260001 x260002) else (ay.j2 k x0 x3 x5 false x260000 x260001 x260002))
def ay.j2 : Nat → List (S92) → Int → Bool → Bool → ByteArray → Int → Int → Option (Bool)
 | 0, _, _, _, _, _, _, _ => none
 | k + 1, x0, x3, x5, x6, x260000, x260001, x260002 => (aJ.f k x260000).bind fun t262 => (if t262 = true then ((ba.f k x0 x260000).bind fun t263 => (if t263 = x3 then (if x5 = true then (ay.l0 k x0 (wrap64 (x3 + 1))) else (if x6 = true then (ay.l0 k x0 (wrap64 (x3 + 1))) else (some false))) else (some false))) else (some false))
end
def ay.f (k : Nat) (l0 : List (S92)) : Option (Bool) := ay.l0 k l0 0
theorem ay.calls (k : Nat) (A0 : Option Addr) (c0 : Nat) (l0 : List (S92)) (r : Bool) (w : World) (hr0 : Kd.C k92 w A0 l0.length l0) (hc0 : l0.length ≤ c0) (h : ay.f k l0 = some r) :
  Calls Tryz.prog 53 #[.slice A0 l0.length c0] w fun e w' => e = .returned (.bool r) ∧ Below w.heap.size w w' := by
 have hu92 := Tryz.underlying92; have HR0 := am_ hr0; have HC0 := am_ hc0; clear hr0 hc0; have HB := am_ (Below.refl w.heap.size w); have H := h; clear h; unfold ay.f at H
 have H' := am_ H; clear H; go_enter Tryz.func53, Tryz.ntmps53
 go_wp2; go_loopg [3] k (fun kq v3 w' => ∃ (x3_1 : Int), v3 = .int .i64 x3_1 ∧ aa (ay.l0 kq l0 x3_1 = some r) ∧ aa (kq ≤ k) ∧ aa (Below w.heap.size w w'))
 case atStart => exact ⟨(0), u1_, H', ⟨Nat.le_refl _⟩, ⟨bw_ HB⟩⟩
 case round =>
  clear H'; obtain ⟨x3_1, rfl, HA, HK1, HB⟩ := hrel; cases gk with
  | zero => exact absurd HA.out (by simp [ay.l0])
  | succ k1 =>
   have H := HA.out; clear HA; simp only [ay.l0] at H; by_cases c2 : x3_1 < (l0.length : Int)
   ·rw [if_pos c2] at H; have c2b0 := decide_eq_true c2; clear c2; obtain ⟨c3b0, H⟩ := gd_ H; have HC4 := am_ H; clear H; obtain ⟨ad258, e258, hx258_0, hx258_1, hx258_2⟩ := go HR0.out x3_1 od_ od_; cases e258; replace hx258_0 := cb_ HB hx258_0; replace hx258_1 := cb_ HB hx258_1; replace hx258_2 := cb_ HB hx258_2; obtain ⟨p258, q258⟩ := pt_ x3_1 l0.length; go_upto_region 5 with (first | ((with_reducible refine gt_ 4 ?_); refine bx_ 4 #[.string (⟨#[]⟩ : ByteArray), .int .i64 0, .int .i64 0] 92 ?_; intro gb259 hg w5 hbox hb; have BK259 := am_ (hbox); have GE259 := gw_ HB hg; replace HB := bs_ HB hb; clear hb hbox hg; obtain ⟨hcz6_0, hcz6_1, hcz6_2, hfz6_0, hfz6_1, hfz6_2⟩ := bR BK259.out))
    (try simp only [Act.put, List.setIfInBounds_toArray, List.set_cons_zero, List.set_cons_succ])
    go_cut [5] (fun v5 wc => ∃ (kq : Nat) (x5_3 : Bool), v5 = .bool x5_3 ∧ aa (ay.j1 kq l0 x3_1 x5_3 ((ao l0 x3_1).f0) ((ao l0 x3_1).f1) ((ao l0 x3_1).f2) = some r) ∧ aa (kq ≤ k1) ∧ aa (wc.heap[gb259]? = some (.cells #[.string ((ao l0 x3_1).f0), .int .i64 ((ao l0 x3_1).f1), .int .i64 ((ao l0 x3_1).f2)] 92 (0, 0))) ∧ aa (Below w.heap.size w wc))
    case first =>
     have H := HC4.out; clear HC4; by_cases c7 : ((ao l0 x3_1).f1) = 1
     ·rw [if_pos c7] at H; have c7b0 := cV c7; have c7b1 := cW c7; clear c7; (first | rw [c7b0] | (simp only [ap, au]; rw [c7b0]) | skip)
      obtain ⟨t260, A8, H⟩ := bi_ H; have H' := am_ H; clear H; obtain ⟨hcz9_0, hcz9_1, hcz9_2, hfz9_0, hfz9_1, hfz9_2⟩ := bR BK259.out; go_wp2_with (first | (go_at_call 52; (with_reducible refine (b8.calls ((ao l0 x3_1).f2) 1 9 t260 _ A8.out).mono ?_); rintro e w' ⟨rfl, ⟨nd, rfl⟩⟩))
      go_meet
      case rel => exact ⟨_, (t260), u1_, H', ⟨u38_⟩, ⟨pb_ BK259⟩, ⟨bw_ HB⟩⟩
     ·rw [if_neg c7] at H; have c7b0 := cU c7; have c7b1 := cT c7; (first | rw [c7b0] | (simp only [ap, au]; rw [c7b0]) | skip)
      have H' := am_ H; clear H; obtain ⟨hcz10_0, hcz10_1, hcz10_2, hfz10_0, hfz10_1, hfz10_2⟩ := bR BK259.out; go_wp2; go_meet
      case rel => exact ⟨_, (false), u1_, H', ⟨u38_⟩, ⟨pb_ BK259⟩, ⟨bw_ HB⟩⟩
    case rest =>
     clear HC4; try clear c2
     try clear c2b0
     try clear c3b0
     try clear hcz6_0 hcz6_1 hcz6_2 hfz6_0 hfz6_1 hfz6_2
     try clear hx258_0
     try clear hx258_1
     try clear hx258_2
     try clear p258
     try clear q258
     obtain ⟨kq, x5_3, rfl, HA, HJ3, BK259, HB⟩ := hcut; cases kq with
     | zero => exact absurd HA.out (by simp [ay.j1])
     | succ kj3 =>
      have H := HA.out; clear HA; simp only [ay.j1] at H; have HC11 := am_ H; clear H; go_upto_region 6 with (fail)
      go_cut [6] (fun v6 wc => ∃ (kq : Nat) (x6_10 : Bool), v6 = .bool x6_10 ∧ aa (ay.j2 kq l0 x3_1 x5_3 x6_10 ((ao l0 x3_1).f0) ((ao l0 x3_1).f1) ((ao l0 x3_1).f2) = some r) ∧ aa (kq ≤ kj3) ∧ aa (wc.heap[gb259]? = some (.cells #[.string ((ao l0 x3_1).f0), .int .i64 ((ao l0 x3_1).f1), .int .i64 ((ao l0 x3_1).f2)] 92 (0, 0))) ∧ aa (Below w.heap.size w wc))
      case first =>
       have H := HC11.out; clear HC11; obtain ⟨t261, A12, H⟩ := bi_ H; cases t261
       ·replace H := hf_ H; have H' := am_ H; clear H; obtain ⟨hcz15_0, hcz15_1, hcz15_2, hfz15_0, hfz15_1, hfz15_2⟩ := bR BK259.out; go_wp2_with (first | ((with_reducible refine gt_ 27 ?_); refine gD_ 27 Tryz.func52 (b8.calls ((ao l0 x3_1).f1) 2 3 false _ A12.out) ?_; intro nd))
        go_meet
        case rel => exact ⟨_, (false), u1_, H', ⟨by have := HK1.out; have := HJ3.out; first | omega | exact Nat.le_refl _⟩, ⟨pb_ BK259⟩, ⟨bw_ HB⟩⟩
       ·replace H := ht_ H; have H' := am_ H; clear H; obtain ⟨hcz14_0, hcz14_1, hcz14_2, hfz14_0, hfz14_1, hfz14_2⟩ := bR BK259.out; go_wp2_with (first | ((with_reducible refine gt_ 27 ?_); refine gD_ 27 Tryz.func52 (b8.calls ((ao l0 x3_1).f1) 2 3 true _ A12.out) ?_; intro nd))
        go_meet
        case rel => exact ⟨_, ((((ao l0 x3_1).f2) == 0)), u1_, H', ⟨by have := HK1.out; have := HJ3.out; first | omega | exact Nat.le_refl _⟩, ⟨pb_ BK259⟩, ⟨bw_ HB⟩⟩
      case rest =>
       clear HC11; try clear c2
       try clear c2b0
       try clear c3b0
       try clear hcz6_0 hcz6_1 hcz6_2 hfz6_0 hfz6_1 hfz6_2
       try clear hx258_0
       try clear hx258_1
       try clear hx258_2
       try clear p258
       try clear q258
       obtain ⟨kq, x6_10, rfl, HA, HJ10, BK259, HB⟩ := hcut; cases kq with
       | zero => exact absurd HA.out (by simp [ay.j2])
       | succ kj10 =>
        have H := HA.out; clear HA; simp only [ay.j2] at H; obtain ⟨t262, A16, H⟩ := bi_ H; cases t262
        ·replace H := hf_ H; obtain rfl := si_ H; obtain ⟨hcz26_0, hcz26_1, hcz26_2, hfz26_0, hfz26_1, hfz26_2⟩ := bR BK259.out; go_wp2_with (first | ((with_reducible refine gt_ 35 ?_); refine gD_ 35 Tryz.func99 (aJ.calls kj10 ((ao l0 x3_1).f0) false _ A16.out) ?_; intro nd))
         go_ret
         exact ⟨u0_, bw_ HB⟩
        ·replace H := ht_ H; obtain ⟨t263, A18, H⟩ := bi_ H; by_cases c19 : t263 = x3_1
         ·rw [if_pos c19] at H; have c19b0 := cV c19; have c19b1 := cW c19; clear c19; cases x5_3
          ·replace H := hf_ H; cases x6_10
           ·replace H := hf_ H; obtain rfl := si_ H; obtain ⟨hcz24_0, hcz24_1, hcz24_2, hfz24_0, hfz24_1, hfz24_2⟩ := bR BK259.out; go_wp2_with (first | ((with_reducible refine gt_ 35 ?_); refine gD_ 35 Tryz.func99 (aJ.calls kj10 ((ao l0 x3_1).f0) true _ A16.out) ?_; intro nd) | (go_at_call 96; (with_reducible refine (ba.calls kj10 _ _ l0 ((ao l0 x3_1).f0) t263 _ (kc_ HR0 HB) HC0.out A18.out).mono ?_); rintro e w' ⟨rfl, ⟨nd, rfl⟩⟩))
            go_ret
            exact ⟨u0_, bw_ HB⟩
           ·replace H := ht_ H; have H' := am_ H; clear H; obtain ⟨hcz23_0, hcz23_1, hcz23_2, hfz23_0, hfz23_1, hfz23_2⟩ := bR BK259.out; go_wp2_with (first | ((with_reducible refine gt_ 35 ?_); refine gD_ 35 Tryz.func99 (aJ.calls kj10 ((ao l0 x3_1).f0) true _ A16.out) ?_; intro nd) | (go_at_call 96; (with_reducible refine (ba.calls kj10 _ _ l0 ((ao l0 x3_1).f0) t263 _ (kc_ HR0 HB) HC0.out A18.out).mono ?_); rintro e w' ⟨rfl, ⟨nd, rfl⟩⟩))
            go_roundg kj10
            case measure => have := HK1.out; have := HJ3.out; have := HJ10.out; omega
            case rel => exact ⟨(wrap64 (x3_1 + 1)), u1_, H', ⟨by have := HK1.out; have := HJ3.out; have := HJ10.out; omega⟩, ⟨bw_ HB⟩⟩
          ·replace H := ht_ H; have H' := am_ H; clear H; obtain ⟨hcz21_0, hcz21_1, hcz21_2, hfz21_0, hfz21_1, hfz21_2⟩ := bR BK259.out; go_wp2_with (first | ((with_reducible refine gt_ 35 ?_); refine gD_ 35 Tryz.func99 (aJ.calls kj10 ((ao l0 x3_1).f0) true _ A16.out) ?_; intro nd) | (go_at_call 96; (with_reducible refine (ba.calls kj10 _ _ l0 ((ao l0 x3_1).f0) t263 _ (kc_ HR0 HB) HC0.out A18.out).mono ?_); rintro e w' ⟨rfl, ⟨nd, rfl⟩⟩))
           go_roundg kj10
           case measure => have := HK1.out; have := HJ3.out; have := HJ10.out; omega
           case rel => exact ⟨(wrap64 (x3_1 + 1)), u1_, H', ⟨by have := HK1.out; have := HJ3.out; have := HJ10.out; omega⟩, ⟨bw_ HB⟩⟩
         ·rw [if_neg c19] at H; have c19b0 := cU c19; have c19b1 := cT c19; obtain rfl := si_ H; obtain ⟨hcz25_0, hcz25_1, hcz25_2, hfz25_0, hfz25_1, hfz25_2⟩ := bR BK259.out; go_wp2_with (first | ((with_reducible refine gt_ 35 ?_); refine gD_ 35 Tryz.func99 (aJ.calls kj10 ((ao l0 x3_1).f0) true _ A16.out) ?_; intro nd) | (go_at_call 96; (with_reducible refine (ba.calls kj10 _ _ l0 ((ao l0 x3_1).f0) t263 _ (kc_ HR0 HB) HC0.out A18.out).mono ?_); rintro e w' ⟨rfl, ⟨nd, rfl⟩⟩))
          go_ret
          exact ⟨u0_, bw_ HB⟩
   ·rw [if_neg c2] at H; have c2b0 := decide_eq_false c2; clear c2; obtain ⟨t257, A27, H⟩ := bi_ H; obtain rfl := si_ H; go_wp2_with (first | ((with_reducible refine gt_ 55 ?_); refine gD_ 55 Tryz.func52 (b8.calls (l0.length : Int) 1 4 t257 _ A27.out) ?_; intro nd))
    go_ret
    exact ⟨u0_, bw_ HB⟩
def bo.l0 : Nat → ByteArray → Int → Int → Option (Int)
 | 0, _, _, _ => none
 | k + 1, x0, x3, x4 => if x4 < (x0.size : Int) then (if 0 ≤ x4 then (if (bt x0 x4) < 48 then (some (-1)) else (if (bt x0 x4) > 57 then (some (-1)) else (if x4 ≥ 9 then (some (-1)) else (bo.l0 k x0 (wrap64 ((wrap64 (x3 * 10)) + (((bt x0 x4) - 48) % 256))) (wrap64 (x4 + 1)))))) else (none)) else (if (x0.size : Int) = 0 then (some (-1)) else (if (x0.size : Int) > 1 then (if 0 < (x0.size : Int) then (if (bt x0 0) = 48 then (some (-1)) else (some x3)) else (none)) else (some x3)))
def bo.f (k : Nat) (a0 : ByteArray) : Option (Int) := bo.l0 k a0 0 0
theorem bo.calls (k : Nat) (a0 : ByteArray) (r : Int) (w : World) (h : bo.f k a0 = some r) :
  Calls Tryz.prog 158 #[.string a0] w fun e w' => e = .returned (.int .i64 r) ∧ Drawn0 w w' := by
 have H := h; clear h; unfold bo.f at H
 have H' := am_ H; clear H; go_enter Tryz.func158, Tryz.ntmps158
 go_wp2; go_loopg [3, 4] k (fun kq v3 v4 w' => ∃ (x3_1 : Int) (x4_1 : Int), v3 = .int .i64 x3_1 ∧ v4 = .int .i64 x4_1 ∧ aa (bo.l0 kq a0 x3_1 x4_1 = some r) ∧ aa (kq ≤ k) ∧ Drawn0 w w')
 case atStart => exact ⟨(0), (0), u1_, u1_, H', ⟨Nat.le_refl _⟩, u3_⟩
 case round =>
  clear H'; obtain ⟨x3_1, x4_1, rfl, rfl, HA, HK1, ⟨m1, rfl⟩⟩ := hrel; cases gk with
  | zero => exact absurd HA.out (by simp [bo.l0])
  | succ k1 =>
   have H := HA.out; clear HA; simp only [bo.l0] at H; by_cases c2 : x4_1 < (a0.size : Int)
   ·rw [if_pos c2] at H; have c2b0 := decide_eq_true c2; clear c2; obtain ⟨c3b0, H⟩ := gd_ H; have HC_ := am_ H; clear H; obtain ⟨p4, q4⟩ := pq_ x4_1 a0.size; have hx4 := d6 a0 x4_1; obtain ⟨p4, q4⟩ := tt_ p4 q4; have H := HC_.out; clear HC_; by_cases c5 : (bt a0 x4_1) < 48
    ·rw [if_pos c5] at H; have c5b0 := decide_eq_true c5; clear c5; obtain rfl := si_ H; (first | rw [c5b0] | (simp only [ap, au]; rw [c5b0]) | skip)
     go_wp2; go_ret
     exact ⟨u4_, u3_⟩
    ·rw [if_neg c5] at H; have c5b0 := decide_eq_false c5; clear c5; have HC_ := am_ H; clear H; (first | rw [c5b0] | (simp only [ap, au]; rw [c5b0]) | skip)
     obtain ⟨p6, q6⟩ := pq_ x4_1 a0.size; have hx6 := d6 a0 x4_1; obtain ⟨p6, q6⟩ := tt_ p6 q6; have H := HC_.out; clear HC_; by_cases c7 : (bt a0 x4_1) > 57
     ·rw [if_pos c7] at H; have c7b0 : decide (57 < (bt a0 x4_1)) = true := decide_eq_true c7; clear c7; obtain rfl := si_ H; (first | rw [c7b0] | (simp only [ap, au]; rw [c7b0]) | skip)
      go_wp2; go_ret
      exact ⟨u4_, u3_⟩
     ·rw [if_neg c7] at H; have c7b0 : decide (57 < (bt a0 x4_1)) = false := decide_eq_false c7; clear c7; have HC_ := am_ H; clear H; (first | rw [c7b0] | (simp only [ap, au]; rw [c7b0]) | skip)
      have H := HC_.out; clear HC_; by_cases c8 : x4_1 ≥ 9
      ·rw [if_pos c8] at H; have c8b0 : decide (9 ≤ x4_1) = true := decide_eq_true c8; clear c8; obtain rfl := si_ H; (first | rw [c8b0] | (simp only [ap, au]; rw [c8b0]) | skip)
       go_wp2; go_ret
       exact ⟨u4_, u3_⟩
      ·rw [if_neg c8] at H; have c8b0 : decide (9 ≤ x4_1) = false := decide_eq_false c8; clear c8; have H' := am_ H; clear H; (first | rw [c8b0] | (simp only [ap, au]; rw [c8b0]) | skip)
       obtain ⟨p9, q9⟩ := pq_ x4_1 a0.size; have hx9 := d6 a0 x4_1; obtain ⟨p9, q9⟩ := tt_ p9 q9; go_wp2; go_roundg k1
       case measure => have := HK1.out; omega
       case rel => exact ⟨(wrap64 ((wrap64 (x3_1 * 10)) + (((bt a0 x4_1) - 48) % 256))), (wrap64 (x4_1 + 1)), u1_, u1_, H', ⟨dm⟩, u3_⟩
   ·rw [if_neg c2] at H; have c2b0 := decide_eq_false c2; clear c2; by_cases c10 : (a0.size : Int) = 0
    ·rw [if_pos c10] at H; have c10b0 := cV c10; have c10b1 := cW c10; clear c10; obtain rfl := si_ H; go_wp2; go_ret
     exact ⟨u4_, u3_⟩
    ·rw [if_neg c10] at H; have c10b0 := cU c10; have c10b1 := cT c10; by_cases c11 : (a0.size : Int) > 1
     ·rw [if_pos c11] at H; have c11b0 : decide (1 < (a0.size : Int)) = true := decide_eq_true c11; have c11b1 : decide (1 < a0.size) = true := decide_eq_true u7_; clear c11; obtain ⟨c12, H⟩ := gn_ H; have c12b0 := decide_eq_true c12; have c12b1 : decide (0 < a0.size) = true := decide_eq_true u7_; clear c12; have HC_ := am_ H; clear H; have p13 : 0 ≤ (0 : Int) := u7_; have q13 : 0 < a0.size := (by have : (0 : Int) < (a0.size : Int) := od_; omega); have hx13 : ∀ h : 0 < a0.size, ((a0[0]'h).toNat : Int) = bt a0 0 := d6 a0 0; clear p13; have qi13 : (0 < (a0.size : Int)) = True := eq_true (od_); replace q13 := eq_true q13; have H := HC_.out; clear HC_; by_cases c14 : (bt a0 0) = 48
      ·rw [if_pos c14] at H; have c14b0 := cV c14; have c14b1 := cW c14; clear c14; obtain rfl := si_ H; (first | rw [c14b0] | (simp only [ap, au]; rw [c14b0]) | skip)
       go_wp2; go_ret
       exact ⟨u4_, u3_⟩
      ·rw [if_neg c14] at H; have c14b0 := cU c14; have c14b1 := cT c14; obtain rfl := si_ H; (first | rw [c14b0] | (simp only [ap, au]; rw [c14b0]) | skip)
       go_wp2; go_ret
       exact ⟨u4_, u3_⟩
     ·rw [if_neg c11] at H; have c11b0 : decide (1 < (a0.size : Int)) = false := decide_eq_false c11; have c11b1 : decide (1 < a0.size) = false := decide_eq_false u7_; clear c11; obtain rfl := si_ H; go_wp2; go_ret
      exact ⟨u4_, u3_⟩
def be.j0 : Nat → ByteArray → Bool → Option (Int × Bool)
 | 0, _, _ => none
 | k + 1, x0, x13 => if x13 = true then (if 1 ≤ (x0.size : Int) then ((bo.f k (x0.extract 1 x0.size)).bind fun t264 => (some (wrap64 (-t264), decide (t264 > 0)))) else (none)) else ((bo.f k x0).bind fun t265 => (some (t265, decide (t265 ≥ 0))))
def be.f (k : Nat) (a0 : ByteArray) : Option (Int × Bool) := if (a0.size : Int) > 1 then (if 0 < (a0.size : Int) then (be.j0 k a0 ((bt a0 0) == 45)) else (none)) else (be.j0 k a0 false)
theorem be.calls (k : Nat) (a0 : ByteArray) (r1 : Int) (r2 : Bool) (w : World) (h : be.f k a0 = some (r1, r2)) :
  Calls Tryz.prog 137 #[.string a0] w fun e w' => e = .returned (.tuple #[.int .i64 r1, .bool r2]) ∧ Drawn0 w w' := by
 have H := h; clear h; unfold be.f at H
 have HC2 := am_ H; clear H; go_enter Tryz.func137, Tryz.ntmps137
 go_upto_region 1 with (fail)
 go_cut [13] (fun v13 wc => ∃ (kq : Nat) (x13_1 : Bool), v13 = .bool x13_1 ∧ aa (be.j0 kq a0 x13_1 = some (r1, r2)) ∧ aa (kq ≤ k) ∧ Drawn0 w wc)
 case first =>
  have H := HC2.out; clear HC2; by_cases c3 : (a0.size : Int) > 1
  ·rw [if_pos c3] at H; have c3b0 : decide (1 < (a0.size : Int)) = true := decide_eq_true c3; have c3b1 : decide (1 < a0.size) = true := decide_eq_true u7_; clear c3; (first | rw [c3b0] | (simp only [ap, au]; rw [c3b0]) | skip)
   obtain ⟨c4, H⟩ := gn_ H; have c4b0 := decide_eq_true c4; have c4b1 : decide (0 < a0.size) = true := decide_eq_true u7_; clear c4; have H' := am_ H; clear H; have p5 : 0 ≤ (0 : Int) := u7_; have q5 : 0 < a0.size := (by have : (0 : Int) < (a0.size : Int) := od_; omega); have hx5 : ∀ h : 0 < a0.size, ((a0[0]'h).toNat : Int) = bt a0 0 := d6 a0 0; clear p5; have qi5 : (0 < (a0.size : Int)) = True := eq_true (od_); replace q5 := eq_true q5; go_wp2; go_meet
   case rel => exact ⟨_, (((bt a0 0) == 45)), u1_, H', ⟨iH⟩, u3_⟩
  ·rw [if_neg c3] at H; have c3b0 : decide (1 < (a0.size : Int)) = false := decide_eq_false c3; have c3b1 : decide (1 < a0.size) = false := decide_eq_false u7_; clear c3; (first | rw [c3b0] | (simp only [ap, au]; rw [c3b0]) | skip)
   have H' := am_ H; clear H; go_wp2; go_meet
   case rel => exact ⟨_, (false), u1_, H', ⟨iH⟩, u3_⟩
 case rest =>
  clear HC2; obtain ⟨kq, x13_1, rfl, HA, HJ1, ⟨mc1, rfl⟩⟩ := hcut; cases kq with
  | zero => exact absurd HA.out (by simp [be.j0])
  | succ kj1 =>
   have H := HA.out; clear HA; simp only [be.j0] at H; cases x13_1
   ·replace H := hf_ H; obtain ⟨t265, A9, H⟩ := bi_ H; simp only [Option.some.injEq, Prod.mk.injEq] at H; obtain ⟨rfl, rfl⟩ := H; go_wp2_with (first | ((with_reducible refine gt_ 22 ?_); refine gD_ 22 Tryz.func158 (bo.calls kj1 a0 t265 _ A9.out) ?_; intro nd))
    go_ret2
    exact ⟨u4_, u3_⟩
   ·replace H := ht_ H; obtain ⟨c7b0, c7b1, H⟩ := ge_ H; obtain ⟨t264, A8, H⟩ := bi_ H; simp only [Option.some.injEq, Prod.mk.injEq] at H; obtain ⟨rfl, rfl⟩ := H; go_wp2_with (first | ((with_reducible refine gt_ 16 ?_); refine gD_ 16 Tryz.func158 (bo.calls kj1 (a0.extract 1 a0.size) t264 _ A8.out) ?_; intro nd))
    go_ret2
    exact ⟨u4_, u3_⟩
mutual
def bl.l0 : Nat → ByteArray → Int → Int → List ByteArray → Int → Int → Option (List ByteArray)
 | 0, _, _, _, _, _, _ => none
 | k + 1, x0, x1, x2, x7, x8, x9 => if x9 < (x0.size : Int) then (bl.j1 k x0 x1 x2 x7 x8 x9 (decide ((x7.length : Int) < x2))) else (bl.j1 k x0 x1 x2 x7 x8 x9 false)
def bl.j1 : Nat → ByteArray → Int → Int → List ByteArray → Int → Int → Bool → Option (List ByteArray)
 | 0, _, _, _, _, _, _, _ => none
 | k + 1, x0, x1, x2, x7, x8, x9, x20 => if x20 = true then (if 0 ≤ x9 then (if x9 < (x0.size : Int) then (if (bt x0 x9) = x1 then (if 0 ≤ x8 then (if x8 ≤ x9 then (if x9 ≤ (x0.size : Int) then (if x7.length < 8796093022208 then (bl.l0 k x0 x1 x2 (x7 ++ [x0.extract (x8 : Int).toNat (x9 : Int).toNat]) (wrap64 (x9 + 1)) (wrap64 (x9 + 1))) else (none)) else (none)) else (none)) else (none)) else (bl.l0 k x0 x1 x2 x7 x8 (wrap64 (x9 + 1)))) else (none)) else (none)) else (if 0 ≤ x8 then (if x8 ≤ (x0.size : Int) then (if x7.length < 8796093022208 then (some (x7 ++ [x0.extract (x8 : Int).toNat x0.size])) else (none)) else (none)) else (none))
end
def bl.f (k : Nat) (a0 : ByteArray) (a1 : Int) (a2 : Int) : Option (List ByteArray) := bl.l0 k a0 a1 a2 (([] : List ByteArray)) 0 0
theorem bl.calls (k : Nat) (a0 : ByteArray) (a1 : Int) (a2 : Int) (r : List ByteArray) (w : World) (h : bl.f k a0 a1 a2 = some r) :
  Calls Tryz.prog 159 #[.string a0, .int .u8 a1, .int .i64 a2] w fun e w' => ∃ v0_ : Value, e = .returned (v0_) ∧ Kd.R Kd.string 9 w' w.heap.size (fun _ => True) v0_ r ∧ Below w.heap.size w w' := by
 have HB := am_ (Below.refl w.heap.size w); have H := h; clear h; unfold bl.f at H
 obtain ⟨y266, hy266⟩ : ∃ y_ : List ByteArray, y_ = (([] : List ByteArray)) := ⟨_, rfl⟩; replace H : (bl.l0 k a0 a1 a2 y266 0 0) = some r := by first | (rw [hy266]; with_reducible exact H) | (have H2_ := (Option.bind_some _ _).symm.trans H; rw [hy266]; with_reducible exact H2_) | (have H2_ := (Option.bind_some _ _).symm.trans H; with_reducible exact H2_) | with_reducible exact H | (rw [hy266]; exact H) | exact H
 have Ny266 := am_ hy266; clear hy266; have H' := am_ H; clear H; go_enter Tryz.func159, Tryz.ntmps159
 go_wp2_with (first | ((with_reducible refine aE (N := 10) rfl ?_); (try (refine a7 cO ?_; dsimp only)); refine Kd.R_lit Kd.string _ 9 ?hg (N := 10) ?hd (xs := ([] : List ByteArray)) (inner := []) (ok := fun _ => True) (okp := fun _ => True) ?hr ?hp (fun _ hk => hk) trivial (Below.refl _ _) (Nat.le_refl _) cM ?_; (case hd => rfl); (case hg => rfl); (case hr => exact u6_); (case hp => exact ii); intro v267 w4 ho5 hb hg_ hnew_; clear hg_ hnew_; (first | rw [← Ny266.out] at ho5 | (simp only [Int.reduceToNat] at ho5; rw [← Ny266.out] at ho5)); have HO268 := am_ (Kd.R_lower ho5 (al (bw_ HB))); replace HB := bs_ HB hb; clear hb ho5))
 go_loopg [7, 8, 9] k (fun kq v7 v8 v9 w' => ∃ (x7_1 : List ByteArray) (x8_1 : Int) (x9_1 : Int), v8 = .int .i64 x8_1 ∧ v9 = .int .i64 x9_1 ∧ aa (bl.l0 kq a0 a1 a2 x7_1 x8_1 x9_1 = some r) ∧ aa (kq ≤ k) ∧ aa (Kd.R Kd.string 9 w' w.heap.size (fun _ => True) v7 x7_1) ∧ aa (Below w.heap.size w w'))
 case atStart => exact ⟨(y266), (0), (0), u1_, u1_, H', ⟨Nat.le_refl _⟩, ⟨aR_ HO268.out⟩, ⟨bw_ HB⟩⟩
 case round =>
  clear H'; obtain ⟨x7_1, x8_1, x9_1, rfl, rfl, HA, HK1, HO_7, HB⟩ := hrel; cases gk with
  | zero => exact absurd HA.out (by simp [bl.l0])
  | succ k1 =>
   have H := HA.out; clear HA; simp only [bl.l0] at H; have HC6 := am_ H; clear H; go_upto_region 4 with (fail)
   go_cut [20] (fun v20 wc => ∃ (kq : Nat) (x20_5 : Bool), v20 = .bool x20_5 ∧ aa (bl.j1 kq a0 a1 a2 x7_1 x8_1 x9_1 x20_5 = some r) ∧ aa (kq ≤ k1) ∧ aa (Kd.R Kd.string 9 wc w.heap.size (fun _ => True) u7 x7_1) ∧ aa (Below w.heap.size w wc))
   case first =>
    have H := HC6.out; clear HC6; by_cases c7 : x9_1 < (a0.size : Int)
    ·rw [if_pos c7] at H; have c7b0 := decide_eq_true c7; clear c7; (first | rw [c7b0] | (simp only [ap, au]; rw [c7b0]) | skip)
     have H' := am_ H; clear H; obtain ⟨Ao8, co8, eo8⟩ := Kd.R_slice HO_7.out; subst eo8; go_wp2; go_meet
     case rel => exact ⟨_, (decide ((x7_1.length : Int) < a2)), u1_, H', ⟨u38_⟩, ⟨aR_ HO_7.out⟩, ⟨bw_ HB⟩⟩
    ·rw [if_neg c7] at H; have c7b0 := decide_eq_false c7; clear c7; (first | rw [c7b0] | (simp only [ap, au]; rw [c7b0]) | skip)
     have H' := am_ H; clear H; go_wp2; go_meet
     case rel => exact ⟨_, (false), u1_, H', ⟨u38_⟩, ⟨aR_ HO_7.out⟩, ⟨bw_ HB⟩⟩
   case rest =>
    clear HC6; obtain ⟨kq, x20_5, rfl, HA, HJ5, HO_7, HB⟩ := hcut; cases kq with
    | zero => exact absurd HA.out (by simp [bl.j1])
    | succ kj5 =>
     have H := HA.out; clear HA; simp only [bl.j1] at H; cases x20_5
     ·replace H := hf_ H; by_cases c19 : 0 ≤ x8_1
      ·rw [if_pos c19] at H; have c19b0 := eq_true c19; have c19b1 := decide_eq_true c19; clear c19; obtain ⟨c20b0, c20b1, H⟩ := ge_ H; obtain ⟨LMc21, H⟩ := gl_ H; generalize hy272 : ((x7_1 ++ [a0.extract (x8_1 : Int).toNat a0.size]) : List ByteArray) = y272 at H; have Ny272 := am_ hy272.symm; clear hy272; obtain rfl := si_ H; go_wp2_with (first | ((with_reducible refine bV (b := .append) (xs := #[.tmp 37, .tmp 41]) rfl ?_); (try (refine a7 cO ?_; dsimp only)); at_builtin; refine Kd.R_append Kd.string (w0 := w) w.heap.size rfl (.tmp 37) (.tmp 41) 30 9 (.string ⟨#[]⟩) 16 rfl Tryz.underlying30 eX rfl aC u7_ u7 x7_1 (a0.extract (x8_1 : Int).toNat a0.size) [.string (a0.extract (x8_1 : Int).toNat a0.size)] (fun _ => True) (fun _ => False) rfl rfl ?aP (fun _ hk => hk.elim) ?aF ?aO ?aB ?aS ?aL ?_; (case aP => exact rfl); (case aB => exact fL); (case aF => exact jP); (case aO => exact (aR_ HO_7.out)); (case aS => exact fJ); (case aL => have := LMc21.out; omega); intro v273 w22 ho hb hg hat; rw [← Ny272.out] at ho; replace HB := am_ (hb); have HO274 := am_ (ho); clear HO_7 ho hb hg hat))
       go_ret
       exact ⟨_, u0_, aR_ HO274.out, bw_ HB⟩
      ·rw [if_neg c19] at H; exact absurd H cM
     ·replace H := ht_ H; obtain ⟨c10b0, H⟩ := gd_ H; obtain ⟨c11b0, H⟩ := gd_ H; have HC_ := am_ H; clear H; obtain ⟨p12, q12⟩ := pq_ x9_1 a0.size; have hx12 := d6 a0 x9_1; obtain ⟨p12, q12⟩ := tt_ p12 q12; have H := HC_.out; clear HC_; by_cases c13 : (bt a0 x9_1) = a1
      ·rw [if_pos c13] at H; have c13b0 := cV c13; have c13b1 := cW c13; clear c13; obtain ⟨c14b0, c14b1, H⟩ := ge_ H; obtain ⟨c15b0, c15b1, H⟩ := ge_ H; obtain ⟨c16b0, c16b1, H⟩ := ge_ H; obtain ⟨LMc17, H⟩ := gl_ H; generalize hy269 : ((x7_1 ++ [a0.extract (x8_1 : Int).toNat (x9_1 : Int).toNat]) : List ByteArray) = y269 at H; have Ny269 := am_ hy269.symm; clear hy269; have H' := am_ H; clear H; (first | rw [c13b0] | (simp only [ap, au]; rw [c13b0]) | skip)
       go_wp2_with (first | ((with_reducible refine bV (b := .append) (xs := #[.tmp 28, .tmp 33]) rfl ?_); (try (refine a7 cO ?_; dsimp only)); at_builtin; refine Kd.R_append Kd.string (w0 := w) w.heap.size rfl (.tmp 28) (.tmp 33) 30 9 (.string ⟨#[]⟩) 16 rfl Tryz.underlying30 eX rfl aC u7_ u7 x7_1 (a0.extract (x8_1 : Int).toNat (x9_1 : Int).toNat) [.string (a0.extract (x8_1 : Int).toNat (x9_1 : Int).toNat)] (fun _ => True) (fun _ => False) rfl rfl ?aP (fun _ hk => hk.elim) ?aF ?aO ?aB ?aS ?aL ?_; (case aP => exact rfl); (case aB => exact fL); (case aF => exact jP); (case aO => exact (aR_ HO_7.out)); (case aS => exact fJ); (case aL => have := LMc17.out; omega); intro v270 w18 ho hb hg hat; rw [← Ny269.out] at ho; replace HB := am_ (hb); have HO271 := am_ (ho); clear HO_7 ho hb hg hat))
       go_roundg kj5
       case measure => have := HK1.out; have := HJ5.out; omega
       case rel => exact ⟨(y269), (wrap64 (x9_1 + 1)), (wrap64 (x9_1 + 1)), u1_, u1_, H', ⟨by have := HK1.out; have := HJ5.out; omega⟩, ⟨aR_ HO271.out⟩, ⟨bw_ HB⟩⟩
      ·rw [if_neg c13] at H; have c13b0 := cU c13; have c13b1 := cT c13; have H' := am_ H; clear H; (first | rw [c13b0] | (simp only [ap, au]; rw [c13b0]) | skip)
       go_wp2; go_roundg kj5
       case measure => have := HK1.out; have := HJ5.out; omega
       case rel => exact ⟨(x7_1), (x8_1), (wrap64 (x9_1 + 1)), u1_, u1_, H', ⟨by have := HK1.out; have := HJ5.out; omega⟩, ⟨aR_ HO_7.out⟩, ⟨bw_ HB⟩⟩
end Go.Proofs.YtnjjdojonflckaaGreatDoor.PFnExactIndexDoc
