/- Contracts of Go functions, each told as a plain Lean function. -/
import Derived.Test.YtnjjdojonflckaaGreatDoorXPFnExactIndexPostsx20
namespace Go.Proofs.YtnjjdojonflckaaGreatDoor.PFnExactIndexPosts
open Go.RowKit Go.Proofs.YtnjjdojonflckaaGreatDoorW.PrintWords Go.Proofs.YtnjjdojonflckaaGreatDoorW.PrintLast Go.Proofs.YtnjjdojonflckaaGreatDoorW.PrintMore
attribute [local go_sem] a6 aZ bV bY cr co bw bv bQ bX
set_option linter.unusedVariables false
set_option linter.unusedSimpArgs false
set_option maxHeartbeats 8000000
set_option maxRecDepth 100000
def ee.f (k : Nat) (a0_0 : Int) (a0_1 : ByteArray) (l0_2 : List (dF)) (a1 : Int) : Option (Int) := (eb.f k a0_1 l0_2 a1).bind fun t434 => (if t434 < 0 then (some (-1)) else (some t434))
theorem ee.calls (k : Nat) (a0_0 : Int) (a0_1 : ByteArray) (A0_2 : Option Addr) (c0_2 : Nat) (l0_2 : List (dF)) (a1 : Int) (r : Int) (w : World) (hr0_2 : Kd.C iA w A0_2 l0_2.length l0_2) (hc0_2 : l0_2.length ≤ c0_2) (h : ee.f k a0_0 a0_1 l0_2 a1 = some r) :
  Calls Tryz.prog 103 #[.agg #[.int .i64 a0_0, .string a0_1, .slice A0_2 l0_2.length c0_2], .int .i64 a1] w fun e w' => e = .returned (.int .i64 r) ∧ Below w.heap.size w w' := by
 have hu133 := Tryz.underlying133; have hu131 := Tryz.underlying131; have HR0_2 := am_ hr0_2; have HC0_2 := am_ hc0_2; clear hr0_2 hc0_2; have HB := am_ (Below.refl w.heap.size w); have H := h; clear h; unfold ee.f at H
 obtain ⟨t434, A3, H⟩ := bi_ H; by_cases c4 : t434 < 0
 ·rw [if_pos c4] at H; have c4b0 := decide_eq_true c4; clear c4; obtain rfl := si_ H; go_enter Tryz.func103, Tryz.ntmps103
  go_wp2_with (first | ((with_reducible refine gt_ 2 ?_); refine bx_ 2 #[.int .i64 a0_0, .string a0_1, .slice A0_2 l0_2.length c0_2] 133 ?_; intro gb433 hg w5 hbox hb; have BK433 := am_ (hbox); have GE433 := gw_ HB hg; replace HB := bs_ HB hb; clear hb hbox hg; obtain ⟨hcz6_0, hcz6_1, hcz6_2, hfz6_0, hfz6_1, hfz6_2⟩ := bO BK433.out) | ((with_reducible refine gt_ 8 ?_); refine gB_ 8 Tryz.func143 (eb.calls k a0_1 _ _ l0_2 a1 t434 _ (kc_ HR0_2 HB) HC0_2.out A3.out) ?_; intro w7 hb; replace HB := bs_ HB hb; (try clear hb)))
  go_ret
  exact ⟨u0_, bw_ HB⟩
 ·rw [if_neg c4] at H; have c4b0 := decide_eq_false c4; clear c4; obtain rfl := si_ H; go_enter Tryz.func103, Tryz.ntmps103
  go_wp2_with (first | ((with_reducible refine gt_ 2 ?_); refine bx_ 2 #[.int .i64 a0_0, .string a0_1, .slice A0_2 l0_2.length c0_2] 133 ?_; intro gb433 hg w8 hbox hb; have BK433 := am_ (hbox); have GE433 := gw_ HB hg; replace HB := bs_ HB hb; clear hb hbox hg; obtain ⟨hcz9_0, hcz9_1, hcz9_2, hfz9_0, hfz9_1, hfz9_2⟩ := bO BK433.out) | ((with_reducible refine gt_ 8 ?_); refine gB_ 8 Tryz.func143 (eb.calls k a0_1 _ _ l0_2 a1 t434 _ (kc_ HR0_2 HB) HC0_2.out A3.out) ?_; intro w10 hb; replace HB := bs_ HB hb; (try clear hb)))
  go_ret
  exact ⟨u0_, bw_ HB⟩
def bU.l0 : Nat → List (dX) → Int → Int → Option (Int)
 | 0, _, _, _ => none
 | k + 1, x0, x1, x5 => if x5 < (x0.length : Int) then (if 0 ≤ x5 then ((ee.f k ((cY x0 x5).f0) ((cY x0 x5).f1.f0) ((cY x0 x5).f1.f1) x1).bind fun t436 => (if t436 < 0 then (some (-1)) else (bU.l0 k x0 t436 (wrap64 (x5 + 1))))) else (none)) else (some x1)
def bU.f (k : Nat) (l0 : List (dX)) (a1 : Int) : Option (Int) := if (wrap64 (a1 - (l0.length : Int))) < 0 then (some (-1)) else (bU.l0 k l0 (wrap64 (a1 - (l0.length : Int))) 0)
theorem bU.calls (k : Nat) (A0 : Option Addr) (c0 : Nat) (l0 : List (dX)) (a1 : Int) (r : Int) (w : World) (hr0 : Kd.C nQ w A0 l0.length l0) (hc0 : l0.length ≤ c0) (h : bU.f k l0 a1 = some r) :
  Calls Tryz.prog 58 #[.slice A0 l0.length c0, .int .i64 a1] w fun e w' => e = .returned (.int .i64 r) ∧ Below w.heap.size w w' := by
 have hu133 := Tryz.underlying133; have HR0 := am_ hr0; have HC0 := am_ hc0; clear hr0 hc0; have HB := am_ (Below.refl w.heap.size w); have H := h; clear h; unfold bU.f at H
 by_cases c3 : (wrap64 (a1 - (l0.length : Int))) < 0
 ·rw [if_pos c3] at H; have c3b0 := decide_eq_true c3; clear c3; obtain rfl := si_ H; go_enter Tryz.func58, Tryz.ntmps58
  go_wp2; go_ret
  exact ⟨u0_, bw_ HB⟩
 ·rw [if_neg c3] at H; have c3b0 := decide_eq_false c3; clear c3; have H' := am_ H; clear H; go_enter Tryz.func58, Tryz.ntmps58
  go_wp2; go_loopg [1, 5] k (fun kq v1 v5 w' => ∃ (x1_1 : Int) (x5_1 : Int), v1 = .int .i64 x1_1 ∧ v5 = .int .i64 x5_1 ∧ aa (bU.l0 kq l0 x1_1 x5_1 = some r) ∧ aa (kq ≤ k) ∧ aa (Below w.heap.size w w'))
  case atStart => exact ⟨(wrap64 (a1 - (l0.length : Int))), (0), u1_, u1_, H', ⟨Nat.le_refl _⟩, ⟨bw_ HB⟩⟩
  case round =>
   clear H'; try clear c3
   try clear c3b0
   obtain ⟨x1_1, x5_1, rfl, rfl, HA, HK1, HB⟩ := hrel; cases gk with
   | zero => exact absurd HA.out (by simp [bU.l0])
   | succ k1 =>
    have H := HA.out; clear HA; simp only [bU.l0] at H; by_cases c4 : x5_1 < (l0.length : Int)
    ·rw [if_pos c4] at H; have c4b0 := decide_eq_true c4; clear c4; obtain ⟨c5b0, H⟩ := gd_ H; obtain ⟨t436, A6, H⟩ := bi_ H; have HC_ := am_ H; clear H; obtain ⟨ad435, A435_2, c435_2, e435, hx435_0, hx435_1, hx435_2, hl435_2, hi435_2⟩ := pq HR0.out x5_1 od_ od_; cases e435; replace hx435_0 := cb_ HB hx435_0; replace hx435_1 := cb_ HB hx435_1; replace hx435_2 := cb_ HB hx435_2; have HR435_2 := am_ hi435_2; have HC435_2 := am_ hl435_2; clear hi435_2 hl435_2; obtain ⟨p435, q435⟩ := pt_ x5_1 l0.length; have H := HC_.out; clear HC_; by_cases c7 : t436 < 0
     ·rw [if_pos c7] at H; have c7b0 := decide_eq_true c7; clear c7; obtain rfl := si_ H; (first | rw [c7b0] | (simp only [aq, av]; rw [c7b0]) | skip)
      go_wp2_with (first | ((with_reducible refine gt_ 23 ?_); refine gB_ 23 Tryz.func103 (ee.calls k1 ((cY l0 x5_1).f0) ((cY l0 x5_1).f1.f0) _ _ ((cY l0 x5_1).f1.f1) x1_1 t436 _ (kc_ HR435_2 HB) HC435_2.out A6.out) ?_; intro w8 hb; replace HB := bs_ HB hb; (try clear hb)))
      go_ret
      exact ⟨u0_, bw_ HB⟩
     ·rw [if_neg c7] at H; have c7b0 := decide_eq_false c7; clear c7; have H' := am_ H; clear H; (first | rw [c7b0] | (simp only [aq, av]; rw [c7b0]) | skip)
      go_wp2_with (first | ((with_reducible refine gt_ 23 ?_); refine gB_ 23 Tryz.func103 (ee.calls k1 ((cY l0 x5_1).f0) ((cY l0 x5_1).f1.f0) _ _ ((cY l0 x5_1).f1.f1) x1_1 t436 _ (kc_ HR435_2 HB) HC435_2.out A6.out) ?_; intro w9 hb; replace HB := bs_ HB hb; (try clear hb)))
      go_roundg k1
      case measure => have := HK1.out; omega
      case rel => exact ⟨(t436), (wrap64 (x5_1 + 1)), u1_, u1_, H', ⟨dk⟩, ⟨bw_ HB⟩⟩
    ·rw [if_neg c4] at H; have c4b0 := decide_eq_false c4; clear c4; obtain rfl := si_ H; go_wp2; go_ret
     exact ⟨u0_, bw_ HB⟩
def ea.f (l0 : List Int) (a1 : Int) : Option (Int) := if (wrap64 (a1 - (l0.length : Int))) < 0 then (some (-1)) else (some (wrap64 (a1 - (l0.length : Int))))
theorem ea.calls (A0 : Option Addr) (c0 : Nat) (l0 : List Int) (a1 : Int) (r : Int) (w : World) (hr0 : Kd.C (Kd.int .i64) w A0 l0.length l0) (hc0 : l0.length ≤ c0) (h : ea.f l0 a1 = some r) :
  Calls Tryz.prog 183 #[.slice A0 l0.length c0, .int .i64 a1] w fun e w' => e = .returned (.int .i64 r) ∧ Drawn0 w w' := by
 have HR0 := am_ hr0; have HC0 := am_ hc0; clear hr0 hc0; have H := h; clear h; unfold ea.f at H
 by_cases c3 : (wrap64 (a1 - (l0.length : Int))) < 0
 ·rw [if_pos c3] at H; have c3b0 := decide_eq_true c3; clear c3; obtain rfl := si_ H; go_enter Tryz.func183, Tryz.ntmps183
  go_wp2; go_ret
  exact ⟨u4_, u3_⟩
 ·rw [if_neg c3] at H; have c3b0 := decide_eq_false c3; clear c3; obtain rfl := si_ H; go_enter Tryz.func183, Tryz.ntmps183
  go_wp2; go_ret
  exact ⟨u4_, u3_⟩
def dH.f (a0_0 : Int) (l0_1 : List Int) (a1 : Int) : Option (Int) := (ea.f l0_1 a1).bind fun t438 => (if t438 < 0 then (some (-1)) else (some t438))
theorem dH.calls (a0_0 : Int) (A0_1 : Option Addr) (c0_1 : Nat) (l0_1 : List Int) (a1 : Int) (r : Int) (w : World) (hr0_1 : Kd.C (Kd.int .i64) w A0_1 l0_1.length l0_1) (hc0_1 : l0_1.length ≤ c0_1) (h : dH.f a0_0 l0_1 a1 = some r) :
  Calls Tryz.prog 163 #[.agg #[.int .i64 a0_0, .slice A0_1 l0_1.length c0_1], .int .i64 a1] w fun e w' => e = .returned (.int .i64 r) ∧ Below w.heap.size w w' := by
 have hu182 := Tryz.underlying182; have HR0_1 := am_ hr0_1; have HC0_1 := am_ hc0_1; clear hr0_1 hc0_1; have HB := am_ (Below.refl w.heap.size w); have H := h; clear h; unfold dH.f at H
 obtain ⟨t438, A3, H⟩ := bi_ H; by_cases c4 : t438 < 0
 ·rw [if_pos c4] at H; have c4b0 := decide_eq_true c4; clear c4; obtain rfl := si_ H; go_enter Tryz.func163, Tryz.ntmps163
  go_wp2_with (first | ((with_reducible refine gt_ 2 ?_); refine bx_ 2 #[.int .i64 a0_0, .slice A0_1 l0_1.length c0_1] 182 ?_; intro gb437 hg w5 hbox hb; have BK437 := am_ (hbox); have GE437 := gw_ HB hg; replace HB := bs_ HB hb; clear hb hbox hg; obtain ⟨hcz6_0, hcz6_1, hfz6_0, hfz6_1⟩ := bI BK437.out) | ((with_reducible refine gt_ 8 ?_); refine gD_ 8 Tryz.func183 (ea.calls _ _ l0_1 a1 t438 _ (kc_ HR0_1 HB) HC0_1.out A3.out) ?_; intro nd))
  go_ret
  exact ⟨u0_, bw_ HB⟩
 ·rw [if_neg c4] at H; have c4b0 := decide_eq_false c4; clear c4; obtain rfl := si_ H; go_enter Tryz.func163, Tryz.ntmps163
  go_wp2_with (first | ((with_reducible refine gt_ 2 ?_); refine bx_ 2 #[.int .i64 a0_0, .slice A0_1 l0_1.length c0_1] 182 ?_; intro gb437 hg w7 hbox hb; have BK437 := am_ (hbox); have GE437 := gw_ HB hg; replace HB := bs_ HB hb; clear hb hbox hg; obtain ⟨hcz8_0, hcz8_1, hfz8_0, hfz8_1⟩ := bI BK437.out) | ((with_reducible refine gt_ 8 ?_); refine gD_ 8 Tryz.func183 (ea.calls _ _ l0_1 a1 t438 _ (kc_ HR0_1 HB) HC0_1.out A3.out) ?_; intro nd))
  go_ret
  exact ⟨u0_, bw_ HB⟩
def bL.l0 : Nat → List (dY) → Int → Int → Option (Int)
 | 0, _, _, _ => none
 | k + 1, x0, x1, x5 => if x5 < (x0.length : Int) then (if 0 ≤ x5 then ((dH.f ((dx x0 x5).f0) ((dx x0 x5).f1) x1).bind fun t440 => (if t440 < 0 then (some (-1)) else (bL.l0 k x0 t440 (wrap64 (x5 + 1))))) else (none)) else (some x1)
def bL.f (k : Nat) (l0 : List (dY)) (a1 : Int) : Option (Int) := if (wrap64 (a1 - (l0.length : Int))) < 0 then (some (-1)) else (bL.l0 k l0 (wrap64 (a1 - (l0.length : Int))) 0)
theorem bL.calls (k : Nat) (A0 : Option Addr) (c0 : Nat) (l0 : List (dY)) (a1 : Int) (r : Int) (w : World) (hr0 : Kd.C kn w A0 l0.length l0) (hc0 : l0.length ≤ c0) (h : bL.f k l0 a1 = some r) :
  Calls Tryz.prog 144 #[.slice A0 l0.length c0, .int .i64 a1] w fun e w' => e = .returned (.int .i64 r) ∧ Below w.heap.size w w' := by
 have hu182 := Tryz.underlying182; have HR0 := am_ hr0; have HC0 := am_ hc0; clear hr0 hc0; have HB := am_ (Below.refl w.heap.size w); have H := h; clear h; unfold bL.f at H
 by_cases c3 : (wrap64 (a1 - (l0.length : Int))) < 0
 ·rw [if_pos c3] at H; have c3b0 := decide_eq_true c3; clear c3; obtain rfl := si_ H; go_enter Tryz.func144, Tryz.ntmps144
  go_wp2; go_ret
  exact ⟨u0_, bw_ HB⟩
 ·rw [if_neg c3] at H; have c3b0 := decide_eq_false c3; clear c3; have H' := am_ H; clear H; go_enter Tryz.func144, Tryz.ntmps144
  go_wp2; go_loopg [1, 5] k (fun kq v1 v5 w' => ∃ (x1_1 : Int) (x5_1 : Int), v1 = .int .i64 x1_1 ∧ v5 = .int .i64 x5_1 ∧ aa (bL.l0 kq l0 x1_1 x5_1 = some r) ∧ aa (kq ≤ k) ∧ aa (Below w.heap.size w w'))
  case atStart => exact ⟨(wrap64 (a1 - (l0.length : Int))), (0), u1_, u1_, H', ⟨Nat.le_refl _⟩, ⟨bw_ HB⟩⟩
  case round =>
   clear H'; try clear c3
   try clear c3b0
   obtain ⟨x1_1, x5_1, rfl, rfl, HA, HK1, HB⟩ := hrel; cases gk with
   | zero => exact absurd HA.out (by simp [bL.l0])
   | succ k1 =>
    have H := HA.out; clear HA; simp only [bL.l0] at H; by_cases c4 : x5_1 < (l0.length : Int)
    ·rw [if_pos c4] at H; have c4b0 := decide_eq_true c4; clear c4; obtain ⟨c5b0, H⟩ := gd_ H; obtain ⟨t440, A6, H⟩ := bi_ H; have HC_ := am_ H; clear H; obtain ⟨ad439, A439_1, c439_1, e439, hx439_0, hx439_1, hl439_1, hi439_1⟩ := pC HR0.out x5_1 od_ od_; cases e439; replace hx439_0 := cb_ HB hx439_0; replace hx439_1 := cb_ HB hx439_1; have HR439_1 := am_ hi439_1; have HC439_1 := am_ hl439_1; clear hi439_1 hl439_1; obtain ⟨p439, q439⟩ := pt_ x5_1 l0.length; have H := HC_.out; clear HC_; by_cases c7 : t440 < 0
     ·rw [if_pos c7] at H; have c7b0 := decide_eq_true c7; clear c7; obtain rfl := si_ H; (first | rw [c7b0] | (simp only [aq, av]; rw [c7b0]) | skip)
      go_wp2_with (first | ((with_reducible refine gt_ 23 ?_); refine gB_ 23 Tryz.func163 (dH.calls ((dx l0 x5_1).f0) _ _ ((dx l0 x5_1).f1) x1_1 t440 _ (kc_ HR439_1 HB) HC439_1.out A6.out) ?_; intro w8 hb; replace HB := bs_ HB hb; (try clear hb)))
      go_ret
      exact ⟨u0_, bw_ HB⟩
     ·rw [if_neg c7] at H; have c7b0 := decide_eq_false c7; clear c7; have H' := am_ H; clear H; (first | rw [c7b0] | (simp only [aq, av]; rw [c7b0]) | skip)
      go_wp2_with (first | ((with_reducible refine gt_ 23 ?_); refine gB_ 23 Tryz.func163 (dH.calls ((dx l0 x5_1).f0) _ _ ((dx l0 x5_1).f1) x1_1 t440 _ (kc_ HR439_1 HB) HC439_1.out A6.out) ?_; intro w9 hb; replace HB := bs_ HB hb; (try clear hb)))
      go_roundg k1
      case measure => have := HK1.out; omega
      case rel => exact ⟨(t440), (wrap64 (x5_1 + 1)), u1_, u1_, H', ⟨dk⟩, ⟨bw_ HB⟩⟩
    ·rw [if_neg c4] at H; have c4b0 := decide_eq_false c4; clear c4; obtain rfl := si_ H; go_wp2; go_ret
     exact ⟨u0_, bw_ HB⟩
def dz.f (k : Nat) (a0_0 : ByteArray) (a0_1 : ByteArray) (l0_2 : List (dY)) (a1 : Int) : Option (Int) := if (wrap64 (a1 - (a0_0.size : Int))) < 0 then (some (-1)) else (if (wrap64 ((wrap64 (a1 - (a0_0.size : Int))) - (a0_1.size : Int))) < 0 then (some (-1)) else ((bL.f k l0_2 (wrap64 ((wrap64 (a1 - (a0_0.size : Int))) - (a0_1.size : Int)))).bind fun t442 => (if t442 < 0 then (some (-1)) else (some t442))))
theorem dz.calls (k : Nat) (a0_0 : ByteArray) (a0_1 : ByteArray) (A0_2 : Option Addr) (c0_2 : Nat) (l0_2 : List (dY)) (a1 : Int) (r : Int) (w : World) (hr0_2 : Kd.C kn w A0_2 l0_2.length l0_2) (hc0_2 : l0_2.length ≤ c0_2) (h : dz.f k a0_0 a0_1 l0_2 a1 = some r) :
  Calls Tryz.prog 104 #[.agg #[.string a0_0, .string a0_1, .slice A0_2 l0_2.length c0_2], .int .i64 a1] w fun e w' => e = .returned (.int .i64 r) ∧ Below w.heap.size w w' := by
 have hu137 := Tryz.underlying137; have HR0_2 := am_ hr0_2; have HC0_2 := am_ hc0_2; clear hr0_2 hc0_2; have HB := am_ (Below.refl w.heap.size w); have H := h; clear h; unfold dz.f at H
 by_cases c3 : (wrap64 (a1 - (a0_0.size : Int))) < 0
 ·rw [if_pos c3] at H; have c3b0 := decide_eq_true c3; clear c3; obtain rfl := si_ H; go_enter Tryz.func104, Tryz.ntmps104
  go_wp2_with (first | ((with_reducible refine gt_ 2 ?_); refine bx_ 2 #[.string a0_0, .string a0_1, .slice A0_2 l0_2.length c0_2] 137 ?_; intro gb441 hg w4 hbox hb; have BK441 := am_ (hbox); have GE441 := gw_ HB hg; replace HB := bs_ HB hb; clear hb hbox hg; obtain ⟨hcz5_0, hcz5_1, hcz5_2, hfz5_0, hfz5_1, hfz5_2⟩ := bO BK441.out))
  go_ret
  exact ⟨u0_, bw_ HB⟩
 ·rw [if_neg c3] at H; have c3b0 := decide_eq_false c3; clear c3; by_cases c6 : (wrap64 ((wrap64 (a1 - (a0_0.size : Int))) - (a0_1.size : Int))) < 0
  ·rw [if_pos c6] at H; have c6b0 := decide_eq_true c6; clear c6; obtain rfl := si_ H; go_enter Tryz.func104, Tryz.ntmps104
   go_wp2_with (first | ((with_reducible refine gt_ 2 ?_); refine bx_ 2 #[.string a0_0, .string a0_1, .slice A0_2 l0_2.length c0_2] 137 ?_; intro gb441 hg w7 hbox hb; have BK441 := am_ (hbox); have GE441 := gw_ HB hg; replace HB := bs_ HB hb; clear hb hbox hg; obtain ⟨hcz8_0, hcz8_1, hcz8_2, hfz8_0, hfz8_1, hfz8_2⟩ := bO BK441.out))
   go_ret
   exact ⟨u0_, bw_ HB⟩
  ·rw [if_neg c6] at H; have c6b0 := decide_eq_false c6; clear c6; obtain ⟨t442, A9, H⟩ := bi_ H; by_cases c10 : t442 < 0
   ·rw [if_pos c10] at H; have c10b0 := decide_eq_true c10; clear c10; obtain rfl := si_ H; go_enter Tryz.func104, Tryz.ntmps104
    go_wp2_with (first | ((with_reducible refine gt_ 2 ?_); refine bx_ 2 #[.string a0_0, .string a0_1, .slice A0_2 l0_2.length c0_2] 137 ?_; intro gb441 hg w11 hbox hb; have BK441 := am_ (hbox); have GE441 := gw_ HB hg; replace HB := bs_ HB hb; clear hb hbox hg; obtain ⟨hcz12_0, hcz12_1, hcz12_2, hfz12_0, hfz12_1, hfz12_2⟩ := bO BK441.out) | ((with_reducible refine gt_ 22 ?_); refine gB_ 22 Tryz.func144 (bL.calls k _ _ l0_2 (wrap64 ((wrap64 (a1 - (a0_0.size : Int))) - (a0_1.size : Int))) t442 _ (kc_ HR0_2 HB) HC0_2.out A9.out) ?_; intro w13 hb; replace HB := bs_ HB hb; (try clear hb)))
    go_ret
    exact ⟨u0_, bw_ HB⟩
   ·rw [if_neg c10] at H; have c10b0 := decide_eq_false c10; clear c10; obtain rfl := si_ H; go_enter Tryz.func104, Tryz.ntmps104
    go_wp2_with (first | ((with_reducible refine gt_ 2 ?_); refine bx_ 2 #[.string a0_0, .string a0_1, .slice A0_2 l0_2.length c0_2] 137 ?_; intro gb441 hg w14 hbox hb; have BK441 := am_ (hbox); have GE441 := gw_ HB hg; replace HB := bs_ HB hb; clear hb hbox hg; obtain ⟨hcz15_0, hcz15_1, hcz15_2, hfz15_0, hfz15_1, hfz15_2⟩ := bO BK441.out) | ((with_reducible refine gt_ 22 ?_); refine gB_ 22 Tryz.func144 (bL.calls k _ _ l0_2 (wrap64 ((wrap64 (a1 - (a0_0.size : Int))) - (a0_1.size : Int))) t442 _ (kc_ HR0_2 HB) HC0_2.out A9.out) ?_; intro w16 hb; replace HB := bs_ HB hb; (try clear hb)))
    go_ret
    exact ⟨u0_, bw_ HB⟩
def bx.l0 : Nat → List (dZ) → Int → Int → Option (Int)
 | 0, _, _, _ => none
 | k + 1, x0, x1, x5 => if x5 < (x0.length : Int) then (if 0 ≤ x5 then ((dz.f k ((da x0 x5).f0) ((da x0 x5).f1) ((da x0 x5).f2) x1).bind fun t444 => (if t444 < 0 then (some (-1)) else (bx.l0 k x0 t444 (wrap64 (x5 + 1))))) else (none)) else (some x1)
def bx.f (k : Nat) (l0 : List (dZ)) (a1 : Int) : Option (Int) := if (wrap64 (a1 - (l0.length : Int))) < 0 then (some (-1)) else (bx.l0 k l0 (wrap64 (a1 - (l0.length : Int))) 0)
theorem bx.calls (k : Nat) (A0 : Option Addr) (c0 : Nat) (l0 : List (dZ)) (a1 : Int) (r : Int) (w : World) (hr0 : Kd.C n7 w A0 l0.length l0) (hc0 : l0.length ≤ c0) (h : bx.f k l0 a1 = some r) :
  Calls Tryz.prog 59 #[.slice A0 l0.length c0, .int .i64 a1] w fun e w' => e = .returned (.int .i64 r) ∧ Below w.heap.size w w' := by
 have hu137 := Tryz.underlying137; have HR0 := am_ hr0; have HC0 := am_ hc0; clear hr0 hc0; have HB := am_ (Below.refl w.heap.size w); have H := h; clear h; unfold bx.f at H
 by_cases c3 : (wrap64 (a1 - (l0.length : Int))) < 0
 ·rw [if_pos c3] at H; have c3b0 := decide_eq_true c3; clear c3; obtain rfl := si_ H; go_enter Tryz.func59, Tryz.ntmps59
  go_wp2; go_ret
  exact ⟨u0_, bw_ HB⟩
 ·rw [if_neg c3] at H; have c3b0 := decide_eq_false c3; clear c3; have H' := am_ H; clear H; go_enter Tryz.func59, Tryz.ntmps59
  go_wp2; go_loopg [1, 5] k (fun kq v1 v5 w' => ∃ (x1_1 : Int) (x5_1 : Int), v1 = .int .i64 x1_1 ∧ v5 = .int .i64 x5_1 ∧ aa (bx.l0 kq l0 x1_1 x5_1 = some r) ∧ aa (kq ≤ k) ∧ aa (Below w.heap.size w w'))
  case atStart => exact ⟨(wrap64 (a1 - (l0.length : Int))), (0), u1_, u1_, H', ⟨Nat.le_refl _⟩, ⟨bw_ HB⟩⟩
  case round =>
   clear H'; try clear c3
   try clear c3b0
   obtain ⟨x1_1, x5_1, rfl, rfl, HA, HK1, HB⟩ := hrel; cases gk with
   | zero => exact absurd HA.out (by simp [bx.l0])
   | succ k1 =>
    have H := HA.out; clear HA; simp only [bx.l0] at H; by_cases c4 : x5_1 < (l0.length : Int)
    ·rw [if_pos c4] at H; have c4b0 := decide_eq_true c4; clear c4; obtain ⟨c5b0, H⟩ := gd_ H; obtain ⟨t444, A6, H⟩ := bi_ H; have HC_ := am_ H; clear H; obtain ⟨ad443, A443_2, c443_2, e443, hx443_0, hx443_1, hx443_2, hl443_2, hi443_2⟩ := pv HR0.out x5_1 od_ od_; cases e443; replace hx443_0 := cb_ HB hx443_0; replace hx443_1 := cb_ HB hx443_1; replace hx443_2 := cb_ HB hx443_2; have HR443_2 := am_ hi443_2; have HC443_2 := am_ hl443_2; clear hi443_2 hl443_2; obtain ⟨p443, q443⟩ := pt_ x5_1 l0.length; have H := HC_.out; clear HC_; by_cases c7 : t444 < 0
     ·rw [if_pos c7] at H; have c7b0 := decide_eq_true c7; clear c7; obtain rfl := si_ H; (first | rw [c7b0] | (simp only [aq, av]; rw [c7b0]) | skip)
      go_wp2_with (first | ((with_reducible refine gt_ 23 ?_); refine gB_ 23 Tryz.func104 (dz.calls k1 ((da l0 x5_1).f0) ((da l0 x5_1).f1) _ _ ((da l0 x5_1).f2) x1_1 t444 _ (kc_ HR443_2 HB) HC443_2.out A6.out) ?_; intro w8 hb; replace HB := bs_ HB hb; (try clear hb)))
      go_ret
      exact ⟨u0_, bw_ HB⟩
     ·rw [if_neg c7] at H; have c7b0 := decide_eq_false c7; clear c7; have H' := am_ H; clear H; (first | rw [c7b0] | (simp only [aq, av]; rw [c7b0]) | skip)
      go_wp2_with (first | ((with_reducible refine gt_ 23 ?_); refine gB_ 23 Tryz.func104 (dz.calls k1 ((da l0 x5_1).f0) ((da l0 x5_1).f1) _ _ ((da l0 x5_1).f2) x1_1 t444 _ (kc_ HR443_2 HB) HC443_2.out A6.out) ?_; intro w9 hb; replace HB := bs_ HB hb; (try clear hb)))
      go_roundg k1
      case measure => have := HK1.out; omega
      case rel => exact ⟨(t444), (wrap64 (x5_1 + 1)), u1_, u1_, H', ⟨dk⟩, ⟨bw_ HB⟩⟩
    ·rw [if_neg c4] at H; have c4b0 := decide_eq_false c4; clear c4; obtain rfl := si_ H; go_wp2; go_ret
     exact ⟨u0_, bw_ HB⟩
def dC.f (k : Nat) (l0_0 : List (d9)) (l0_1 : List (dX)) (l0_2 : List (dZ)) (a0_3 : Int) (a1 : Int) : Option (Int) := (bn.f k l0_0 a1).bind fun t446 => (if t446 < 0 then (some (-1)) else ((bU.f k l0_1 t446).bind fun t447 => (if t447 < 0 then (some (-1)) else ((bx.f k l0_2 t447).bind fun t448 => (if t448 < 0 then (some (-1)) else (some t448))))))
theorem dC.calls (k : Nat) (A0_0 : Option Addr) (c0_0 : Nat) (l0_0 : List (d9)) (A0_1 : Option Addr) (c0_1 : Nat) (l0_1 : List (dX)) (A0_2 : Option Addr) (c0_2 : Nat) (l0_2 : List (dZ)) (a0_3 : Int) (a1 : Int) (r : Int) (w : World) (hr0_0 : Kd.C ob w A0_0 l0_0.length l0_0) (hc0_0 : l0_0.length ≤ c0_0) (hr0_1 : Kd.C nQ w A0_1 l0_1.length l0_1) (hc0_1 : l0_1.length ≤ c0_1) (hr0_2 : Kd.C n7 w A0_2 l0_2.length l0_2) (hc0_2 : l0_2.length ≤ c0_2) (h : dC.f k l0_0 l0_1 l0_2 a0_3 a1 = some r) :
  Calls Tryz.prog 23 #[.agg #[.slice A0_0 l0_0.length c0_0, .slice A0_1 l0_1.length c0_1, .slice A0_2 l0_2.length c0_2, .int .i64 a0_3], .int .i64 a1] w fun e w' => e = .returned (.int .i64 r) ∧ Below w.heap.size w w' := by
 have hu56 := Tryz.underlying56; have HR0_0 := am_ hr0_0; have HC0_0 := am_ hc0_0; clear hr0_0 hc0_0; have HR0_1 := am_ hr0_1; have HC0_1 := am_ hc0_1; clear hr0_1 hc0_1; have HR0_2 := am_ hr0_2; have HC0_2 := am_ hc0_2; clear hr0_2 hc0_2; have HB := am_ (Below.refl w.heap.size w); have H := h; clear h; unfold dC.f at H
 obtain ⟨t446, A3, H⟩ := bi_ H; by_cases c4 : t446 < 0
 ·rw [if_pos c4] at H; have c4b0 := decide_eq_true c4; clear c4; obtain rfl := si_ H; go_enter Tryz.func23, Tryz.ntmps23
  go_wp2_with (first | ((with_reducible refine gt_ 2 ?_); refine bx_ 2 #[.slice A0_0 l0_0.length c0_0, .slice A0_1 l0_1.length c0_1, .slice A0_2 l0_2.length c0_2, .int .i64 a0_3] 56 ?_; intro gb445 hg w5 hbox hb; have BK445 := am_ (hbox); have GE445 := gw_ HB hg; replace HB := bs_ HB hb; clear hb hbox hg; obtain ⟨hcz6_0, hcz6_1, hcz6_2, hcz6_3, hfz6_0, hfz6_1, hfz6_2, hfz6_3⟩ := ch BK445.out) | ((with_reducible refine gt_ 8 ?_); refine gB_ 8 Tryz.func57 (bn.calls k _ _ l0_0 a1 t446 _ (kc_ HR0_0 HB) HC0_0.out A3.out) ?_; intro w7 hb; replace HB := bs_ HB hb; (try clear hb)))
  go_ret
  exact ⟨u0_, bw_ HB⟩
 ·rw [if_neg c4] at H; have c4b0 := decide_eq_false c4; clear c4; obtain ⟨t447, A8, H⟩ := bi_ H; by_cases c9 : t447 < 0
  ·rw [if_pos c9] at H; have c9b0 := decide_eq_true c9; clear c9; obtain rfl := si_ H; go_enter Tryz.func23, Tryz.ntmps23
   go_wp2_with (first | ((with_reducible refine gt_ 2 ?_); refine bx_ 2 #[.slice A0_0 l0_0.length c0_0, .slice A0_1 l0_1.length c0_1, .slice A0_2 l0_2.length c0_2, .int .i64 a0_3] 56 ?_; intro gb445 hg w10 hbox hb; have BK445 := am_ (hbox); have GE445 := gw_ HB hg; replace HB := bs_ HB hb; clear hb hbox hg; obtain ⟨hcz11_0, hcz11_1, hcz11_2, hcz11_3, hfz11_0, hfz11_1, hfz11_2, hfz11_3⟩ := ch BK445.out) | ((with_reducible refine gt_ 8 ?_); refine gB_ 8 Tryz.func57 (bn.calls k _ _ l0_0 a1 t446 _ (kc_ HR0_0 HB) HC0_0.out A3.out) ?_; intro w12 hb; replace BK445 := bb_ BK445 hb; replace HB := bs_ HB hb; (try clear hb); obtain ⟨hcz13_0, hcz13_1, hcz13_2, hcz13_3, hfz13_0, hfz13_1, hfz13_2, hfz13_3⟩ := ch BK445.out) | ((with_reducible refine gt_ 14 ?_); refine gB_ 14 Tryz.func58 (bU.calls k _ _ l0_1 t446 t447 _ (kc_ HR0_1 HB) HC0_1.out A8.out) ?_; intro w14 hb; replace HB := bs_ HB hb; (try clear hb)))
   go_ret
   exact ⟨u0_, bw_ HB⟩
  ·rw [if_neg c9] at H; have c9b0 := decide_eq_false c9; clear c9; obtain ⟨t448, A15, H⟩ := bi_ H; by_cases c16 : t448 < 0
   ·rw [if_pos c16] at H; have c16b0 := decide_eq_true c16; clear c16; obtain rfl := si_ H; go_enter Tryz.func23, Tryz.ntmps23
    go_wp2_with (first | ((with_reducible refine gt_ 2 ?_); refine bx_ 2 #[.slice A0_0 l0_0.length c0_0, .slice A0_1 l0_1.length c0_1, .slice A0_2 l0_2.length c0_2, .int .i64 a0_3] 56 ?_; intro gb445 hg w17 hbox hb; have BK445 := am_ (hbox); have GE445 := gw_ HB hg; replace HB := bs_ HB hb; clear hb hbox hg; obtain ⟨hcz18_0, hcz18_1, hcz18_2, hcz18_3, hfz18_0, hfz18_1, hfz18_2, hfz18_3⟩ := ch BK445.out) | ((with_reducible refine gt_ 8 ?_); refine gB_ 8 Tryz.func57 (bn.calls k _ _ l0_0 a1 t446 _ (kc_ HR0_0 HB) HC0_0.out A3.out) ?_; intro w19 hb; replace BK445 := bb_ BK445 hb; replace HB := bs_ HB hb; (try clear hb); obtain ⟨hcz20_0, hcz20_1, hcz20_2, hcz20_3, hfz20_0, hfz20_1, hfz20_2, hfz20_3⟩ := ch BK445.out) | ((with_reducible refine gt_ 14 ?_); refine gB_ 14 Tryz.func58 (bU.calls k _ _ l0_1 t446 t447 _ (kc_ HR0_1 HB) HC0_1.out A8.out) ?_; intro w21 hb; replace BK445 := bb_ BK445 hb; replace HB := bs_ HB hb; (try clear hb); obtain ⟨hcz22_0, hcz22_1, hcz22_2, hcz22_3, hfz22_0, hfz22_1, hfz22_2, hfz22_3⟩ := ch BK445.out) | ((with_reducible refine gt_ 20 ?_); refine gB_ 20 Tryz.func59 (bx.calls k _ _ l0_2 t447 t448 _ (kc_ HR0_2 HB) HC0_2.out A15.out) ?_; intro w23 hb; replace HB := bs_ HB hb; (try clear hb)))
    go_ret
    exact ⟨u0_, bw_ HB⟩
   ·rw [if_neg c16] at H; have c16b0 := decide_eq_false c16; clear c16; obtain rfl := si_ H; go_enter Tryz.func23, Tryz.ntmps23
    go_wp2_with (first | ((with_reducible refine gt_ 2 ?_); refine bx_ 2 #[.slice A0_0 l0_0.length c0_0, .slice A0_1 l0_1.length c0_1, .slice A0_2 l0_2.length c0_2, .int .i64 a0_3] 56 ?_; intro gb445 hg w24 hbox hb; have BK445 := am_ (hbox); have GE445 := gw_ HB hg; replace HB := bs_ HB hb; clear hb hbox hg; obtain ⟨hcz25_0, hcz25_1, hcz25_2, hcz25_3, hfz25_0, hfz25_1, hfz25_2, hfz25_3⟩ := ch BK445.out) | ((with_reducible refine gt_ 8 ?_); refine gB_ 8 Tryz.func57 (bn.calls k _ _ l0_0 a1 t446 _ (kc_ HR0_0 HB) HC0_0.out A3.out) ?_; intro w26 hb; replace BK445 := bb_ BK445 hb; replace HB := bs_ HB hb; (try clear hb); obtain ⟨hcz27_0, hcz27_1, hcz27_2, hcz27_3, hfz27_0, hfz27_1, hfz27_2, hfz27_3⟩ := ch BK445.out) | ((with_reducible refine gt_ 14 ?_); refine gB_ 14 Tryz.func58 (bU.calls k _ _ l0_1 t446 t447 _ (kc_ HR0_1 HB) HC0_1.out A8.out) ?_; intro w28 hb; replace BK445 := bb_ BK445 hb; replace HB := bs_ HB hb; (try clear hb); obtain ⟨hcz29_0, hcz29_1, hcz29_2, hcz29_3, hfz29_0, hfz29_1, hfz29_2, hfz29_3⟩ := ch BK445.out) | ((with_reducible refine gt_ 20 ?_); refine gB_ 20 Tryz.func59 (bx.calls k _ _ l0_2 t447 t448 _ (kc_ HR0_2 HB) HC0_2.out A15.out) ?_; intro w30 hb; replace HB := bs_ HB hb; (try clear hb)))
    go_ret
    exact ⟨u0_, bw_ HB⟩
def er.f (a0_0 : ByteArray) (a0_1 : Int) (a0_2 : Int) : Option (ByteArray × Int × Int) := some (a0_0, a0_1, a0_2)
theorem er.calls (a0_0 : ByteArray) (a0_1 : Int) (a0_2 : Int) (r1 : ByteArray) (r2 : Int) (r3 : Int) (w : World) (h : er.f a0_0 a0_1 a0_2 = some (r1, r2, r3)) :
  Calls Tryz.prog 105 #[.agg #[.string a0_0, .int .i64 a0_1, .int .i64 a0_2]] w fun e w' => e = .returned (.agg #[.string r1, .int .i64 r2, .int .i64 r3]) ∧ Below w.heap.size w w' := by
 have hu127 := Tryz.underlying127; have hu92 := Tryz.underlying92; have HB := am_ (Below.refl w.heap.size w); have H := h; clear h; unfold er.f at H
 simp only [Option.some.injEq, Prod.mk.injEq] at H; obtain ⟨rfl, rfl, rfl⟩ := H; go_enter Tryz.func105, Tryz.ntmps105
 go_wp2_with (first | ((with_reducible refine gt_ 1 ?_); refine bx_ 1 #[.string a0_0, .int .i64 a0_1, .int .i64 a0_2] 127 ?_; intro gb449 hg w2 hbox hb; have BK449 := am_ (hbox); have GE449 := gw_ HB hg; replace HB := bs_ HB hb; clear hb hbox hg) | ((with_reducible refine gt_ 2 ?_); refine bx_ 2 #[.string (⟨#[]⟩ : ByteArray), .int .i64 0, .int .i64 0] 92 ?_; intro gb450 hg w3 hbox hb; have BK450 := am_ (hbox); have GE450 := gw_ HB hg; replace HB := bs_ HB hb; have NB449_450 := nl_ BK449 hg; have NB450_449 := ng_ BK449 hg; replace BK449 := bb_ BK449 hb; clear hb hbox hg) | ((with_reducible refine gt_ 3 ?_); refine bx_ 3 #[.string (⟨#[]⟩ : ByteArray), .int .i64 0, .int .i64 0] 92 ?_; intro gb451 hg w4 hbox hb; have BK451 := am_ (hbox); have GE451 := gw_ HB hg; replace HB := bs_ HB hb; have NB449_451 := nl_ BK449 hg; have NB451_449 := ng_ BK449 hg; replace BK449 := bb_ BK449 hb; have NB450_451 := nl_ BK450 hg; have NB451_450 := ng_ BK450 hg; replace BK450 := bb_ BK450 hb; clear hb hbox hg; have hnb5 := NB449_450.out; have hnc5 := NB450_449.out; have hnb6 := NB449_451.out; have hnc6 := NB451_449.out; obtain ⟨hcz7_0, hcz7_1, hcz7_2, hfz7_0, hfz7_1, hfz7_2⟩ := bO BK449.out; have hnb8 := NB451_450.out; have hnc8 := NB450_451.out; obtain ⟨hcz9_0, hcz9_1, hcz9_2, hfz9_0, hfz9_1, hfz9_2⟩ := bO BK451.out; obtain ⟨hcz10_0, hcz10_1, hcz10_2, hfz10_0, hfz10_1, hfz10_2⟩ := bO BK450.out))
 refine bodyPost_ret (results_cell_row rfl _ _ gb450 92 #[.string a0_0, .int .i64 a0_1, .int .i64 a0_2] (0, 0) _ rfl (pb_ BK450) Tryz.underlying92 rfl cn) rfl ?_; exact ⟨u0_, bw_ HB⟩
def bF.l0 : Nat → List (d9) → List (S92) → Int → Option ((List (S92)))
 | 0, _, _, _ => none
 | k + 1, x0, x3, x4 => if x4 < (x0.length : Int) then (if 0 ≤ x4 then ((er.f ((dl x0 x4).f0) ((dl x0 x4).f1) ((dl x0 x4).f2)).bind fun bt456 => (if x4 < (x3.length : Int) then (bF.l0 k x0 (x3.set (x4 : Int).toNat (⟨bt456.1, bt456.2.1, bt456.2.2⟩ : S92)) (wrap64 (x4 + 1))) else (none))) else (none)) else (some x3)
def bF.f (k : Nat) (l0 : List (d9)) : Option ((List (S92))) := if 0 ≤ (l0.length : Int) then (if ((l0.length : Int) : Int).toNat ≤ 8796093022208 then (bF.l0 k l0 (List.replicate ((l0.length : Int) : Int).toNat z92) 0) else (none)) else (none)
theorem bF.calls (k : Nat) (A0 : Option Addr) (c0 : Nat) (l0 : List (d9)) (r : List (S92)) (w : World) (hr0 : Kd.C ob w A0 l0.length l0) (hc0 : l0.length ≤ c0) (h : bF.f k l0 = some r) :
  Calls Tryz.prog 60 #[.slice A0 l0.length c0] w fun e w' => ∃ v0_ : Value, e = .returned (v0_) ∧ Kd.R k92 92 w' w.heap.size (fun _ => True) v0_ r ∧ Below w.heap.size w w' := by
 have hu127 := Tryz.underlying127; have hu92 := Tryz.underlying92; have HR0 := am_ hr0; have HC0 := am_ hc0; clear hr0 hc0; have HB := am_ (Below.refl w.heap.size w); have H := h; clear h; unfold bF.f at H
 obtain ⟨c2b0, c2b1, H⟩ := ge_ H; obtain ⟨c3b0, c3b1, H⟩ := ge_ H; generalize hy452 : ((List.replicate ((l0.length : Int) : Int).toNat z92) : List (S92)) = y452 at H; have Ny452 := am_ hy452.symm; clear hy452; have H' := am_ H; clear H; go_enter Tryz.func60, Tryz.ntmps60
 go_wp2_with (first | ((with_reducible refine aA (N := 7) rfl ?_); refine Kd.R_make k92 _ 92 rfl (N := 7) rfl 23 _ _ rfl (l0.length : Int) rfl rfl Tryz.underlying23 (.agg #[(.string ⟨#[]⟩), (.int .i64 0), (.int .i64 0)]) 32 info92 rfl bh u7_ z92 (ok := fun _ => True) (okp := fun _ => True) (pV _ _ _ z92 ) (fun _ hk => hk) trivial (od_) (Nat.le_trans (Nat.mul_le_mul_right _ (od_ : (l0.length : Int).toNat ≤ 8796093022208)) u7_) (Below.refl _ _) (Nat.le_refl _) ?_; intro v453 w4 ho5 hb hg_ hnew_; clear hg_ hnew_; (first | rw [← Ny452.out] at ho5 | (simp only [Int.reduceToNat] at ho5; rw [← Ny452.out] at ho5)); have HO454 := am_ (Kd.R_lower ho5 (ar (bw_ HB))); replace HB := bs_ HB hb; clear hb ho5))
 go_loopg [4] k (fun kq v4 w' => ∃ (x3_1 : List (S92)) (x4_1 : Int), v4 = .int .i64 x4_1 ∧ aa (bF.l0 kq l0 x3_1 x4_1 = some r) ∧ aa (kq ≤ k) ∧ aa (Kd.R k92 92 w' w.heap.size (fun _ => True) v453 x3_1) ∧ aa (Below w.heap.size w w'))
 case atStart => exact ⟨(y452), (0), u1_, H', ⟨Nat.le_refl _⟩, ⟨aR_ HO454.out⟩, ⟨bw_ HB⟩⟩
 case round =>
  clear H'; try clear c2b0
  try clear c2b1
  try clear c3b0
  try clear c3b1
  obtain ⟨x3_1, x4_1, rfl, HA, HK1, HO_3, HB⟩ := hrel; cases gk with
  | zero => exact absurd HA.out (by simp [bF.l0])
  | succ k1 =>
   have H := HA.out; clear HA; simp only [bF.l0] at H; by_cases c6 : x4_1 < (l0.length : Int)
   ·rw [if_pos c6] at H; have c6b0 := decide_eq_true c6; clear c6; obtain ⟨c7b0, H⟩ := gd_ H; obtain ⟨⟨t456, t457, t458⟩, A8, H⟩ := bi_ H; dsimp only at H; obtain ⟨c9b0, H⟩ := gd_ H; generalize hy459 : ((x3_1.set (x4_1 : Int).toNat (⟨t456, t457, t458⟩ : S92)) : List (S92)) = y459 at H; have Ny459 := am_ hy459.symm; clear hy459; have H' := am_ H; clear H; obtain ⟨ad455, e455, hx455_0, hx455_1, hx455_2⟩ := pD HR0.out x4_1 od_ od_; cases e455; replace hx455_0 := cb_ HB hx455_0; replace hx455_1 := cb_ HB hx455_1; replace hx455_2 := cb_ HB hx455_2; obtain ⟨p455, q455⟩ := pt_ x4_1 l0.length; go_wp2_with (first | ((with_reducible refine gt_ 20 ?_); refine gB_ 20 Tryz.func105 (er.calls ((dl l0 x4_1).f0) ((dl l0 x4_1).f1) ((dl l0 x4_1).f2) t456 t457 t458 _ A8.out) ?_; intro w11 hb; replace HO_3 := am_ (Kd.R_below (aR_ HO_3.out) hb); replace HB := bs_ HB hb; (try clear hb); have p10 : 0 ≤ (x4_1 : Int) := od_; have q10 : (x4_1 : Int) < ((x3_1.length : Int) : Int) := od_; obtain ⟨go10, co10, eo10, gb10, gl10, cl10, HG10⟩ := Kd.R_form HO_3.out u7_; (first | cases eo10 | (injection eo10 with ea_ en_ ec_; (first | subst ea_ | (injection ea_ with ea_; subst ea_)); subst ec_; clear en_)); have GB10 := am_ gb10; have GG10 := am_ HG10; clear gb10 gl10 HG10; obtain ⟨ce10, hcl10, hM10, hcc10, hfr10⟩ := Kd.R_elem HO_3.out z92 (x4_1 : Int) p10 q10; obtain rfl := jy hM10; have hx10_0 : w11.cell? ⟨go10, (x4_1 : Int).toNat * 3, none⟩ = some (.string ((ap x3_1 x4_1).f0)) := hcc10 0 _ rfl; have hx10_1 : w11.cell? ⟨go10, (x4_1 : Int).toNat * 3 + 1, none⟩ = some (.int .i64 ((ap x3_1 x4_1).f1)) := hcc10 1 _ rfl; have hx10_2 : w11.cell? ⟨go10, (x4_1 : Int).toNat * 3 + 2, none⟩ = some (.int .i64 ((ap x3_1 x4_1).f2)) := hcc10 2 _ rfl; have hf10_0 : w11.frozen? ⟨go10, (x4_1 : Int).toNat * 3, none⟩ = false := hfr10 0; have hf10_1 : w11.frozen? ⟨go10, (x4_1 : Int).toNat * 3 + 1, none⟩ = false := hfr10 1; have hf10_2 : w11.frozen? ⟨go10, (x4_1 : Int).toNat * 3 + 2, none⟩ = false := hfr10 2; clear hcl10 hcc10 hfr10 hM10; obtain ⟨p10, q10⟩ := tt_ p10 q10; have HX12 := am_ (show Kd.R k92 92 w11 w.heap.size (fun _ => True) (.slice (some ⟨go10, 0, none⟩) x3_1.length co10) x3_1 from (aR_ HO_3.out)); obtain ⟨ce12, hcl12, hM12, hcc12, hfr12⟩ := Kd.R_elem HX12.out z92 (x4_1 : Int) (od_) (by have h_ : (x4_1 : Int) < ((x3_1.length : Int) : Int) := od_; first | exact h_ | (have e_ := (Kd.R_reads' HO_3.out).1; omega) | simpa using h_); obtain rfl := jy hM12; have HP12 := Kd.R_seg HX12.out (x4_1 : Int) (od_) (by have h_ : (x4_1 : Int) < ((x3_1.length : Int) : Int) := od_; first | exact h_ | (have e_ := (Kd.R_reads' HO_3.out).1; omega) | simpa using h_) (seg := [.string t456, .int .i64 t457, .int .i64 t458]) (j := 0) hcl12 hcc12 (show 3 ≤ 3 from bh) (x' := (⟨t456, t457, t458⟩ : S92)) (pV _ _ _ (⟨t456, t457, t458⟩ : S92) ) (fun _ hk => hk); have hx12_0 := hcc12 0 _ rfl; (try simp only [show (k92).sz = 3 from rfl, Nat.mul_one, Nat.add_zero] at hx12_0); have hf12_0 := hfr12 0; (try simp only [show (k92).sz = 3 from rfl, Nat.mul_one, Nat.add_zero] at hf12_0); have hx12_1 := hcc12 1 _ rfl; (try simp only [show (k92).sz = 3 from rfl, Nat.mul_one, Nat.add_zero] at hx12_1); have hf12_1 := hfr12 1; (try simp only [show (k92).sz = 3 from rfl, Nat.mul_one, Nat.add_zero] at hf12_1); have hx12_2 := hcc12 2 _ rfl; (try simp only [show (k92).sz = 3 from rfl, Nat.mul_one, Nat.add_zero] at hx12_2); have hf12_2 := hfr12 2; (try simp only [show (k92).sz = 3 from rfl, Nat.mul_one, Nat.add_zero] at hf12_2); clear hcl12 hcc12 hfr12 hM12) | ((with_reducible refine fc (t := 92) (p := 21) rfl ?_); refine eO (t := 92) (p := 21) (v := ?vo_w13) (w1 := (((w11.setCell ⟨go10, (x4_1 : Int).toNat * 3, none⟩ (.string t456)).setCell ⟨go10, (x4_1 : Int).toNat * 3 + 1, none⟩ (.int .i64 t457)).setCell ⟨go10, (x4_1 : Int).toNat * 3 + 2, none⟩ (.int .i64 t458))) ?hg ?ho ?hn ?hr ?_; (case ho => rfl); (case hg => rfl); (case hn => rfl); (case hr => exact u6_); intro w13 hw; have hg : w11.grownBy w13 (some go10) := (by rw [hw]; exact HP12.2); have hp_ : Kd.R k92 92 w13 w.heap.size (fun _ => True) (.slice (some ⟨go10, 0, none⟩) x3_1.length co10) y459 := (by rw [hw, Ny459.out]; exact HP12.1); clear HP12; replace HO_3 := am_ (hp_); replace HB := am_ ((by rw [hw]; exact bo (bo (bo (HB.out) GB10.out) GB10.out) GB10.out : Below w.heap.size w w13)); clear hg hw hp_))
    go_roundg k1
    case measure => have := HK1.out; omega
    case rel => exact ⟨(y459), (wrap64 (x4_1 + 1)), u1_, H', ⟨dk⟩, ⟨aR_ HO_3.out⟩, ⟨bw_ HB⟩⟩
   ·rw [if_neg c6] at H; have c6b0 := decide_eq_false c6; clear c6; obtain rfl := si_ H; go_wp2; go_ret
    exact ⟨_, u0_, aR_ HO_3.out, bw_ HB⟩
def eR.f (a0_0 : ByteArray) (a0_1 : ByteArray) : Option (ByteArray × ByteArray) := some (a0_0, a0_1)
theorem eR.calls (a0_0 : ByteArray) (a0_1 : ByteArray) (r1 : ByteArray) (r2 : ByteArray) (w : World) (h : eR.f a0_0 a0_1 = some (r1, r2)) :
  Calls Tryz.prog 184 #[.agg #[.string a0_0, .string a0_1]] w fun e w' => e = .returned (.agg #[.string r1, .string r2]) ∧ Below w.heap.size w w' := by
 have hu200 := Tryz.underlying200; have hu86 := Tryz.underlying86; have HB := am_ (Below.refl w.heap.size w); have H := h; clear h; unfold eR.f at H
 simp only [Option.some.injEq, Prod.mk.injEq] at H; obtain ⟨rfl, rfl⟩ := H; go_enter Tryz.func184, Tryz.ntmps184
 go_wp2_with (first | ((with_reducible refine gt_ 1 ?_); refine bx_ 1 #[.string a0_0, .string a0_1] 200 ?_; intro gb460 hg w2 hbox hb; have BK460 := am_ (hbox); have GE460 := gw_ HB hg; replace HB := bs_ HB hb; clear hb hbox hg) | ((with_reducible refine gt_ 2 ?_); refine bx_ 2 #[.string (⟨#[]⟩ : ByteArray), .string (⟨#[]⟩ : ByteArray)] 86 ?_; intro gb461 hg w3 hbox hb; have BK461 := am_ (hbox); have GE461 := gw_ HB hg; replace HB := bs_ HB hb; have NB460_461 := nl_ BK460 hg; have NB461_460 := ng_ BK460 hg; replace BK460 := bb_ BK460 hb; clear hb hbox hg) | ((with_reducible refine gt_ 3 ?_); refine bx_ 3 #[.string (⟨#[]⟩ : ByteArray), .string (⟨#[]⟩ : ByteArray)] 86 ?_; intro gb462 hg w4 hbox hb; have BK462 := am_ (hbox); have GE462 := gw_ HB hg; replace HB := bs_ HB hb; have NB460_462 := nl_ BK460 hg; have NB462_460 := ng_ BK460 hg; replace BK460 := bb_ BK460 hb; have NB461_462 := nl_ BK461 hg; have NB462_461 := ng_ BK461 hg; replace BK461 := bb_ BK461 hb; clear hb hbox hg; have hnb5 := NB460_461.out; have hnc5 := NB461_460.out; have hnb6 := NB460_462.out; have hnc6 := NB462_460.out; obtain ⟨hcz7_0, hcz7_1, hfz7_0, hfz7_1⟩ := bI BK460.out; have hnb8 := NB462_461.out; have hnc8 := NB461_462.out; obtain ⟨hcz9_0, hcz9_1, hfz9_0, hfz9_1⟩ := bI BK462.out; obtain ⟨hcz10_0, hcz10_1, hfz10_0, hfz10_1⟩ := bI BK461.out))
 refine bodyPost_ret (results_cell_row rfl _ _ gb461 86 #[.string a0_0, .string a0_1] (0, 0) _ rfl (pb_ BK461) Tryz.underlying86 rfl cn) rfl ?_; exact ⟨u0_, bw_ HB⟩
def bS.l0 : Nat → List (dF) → List (S86) → Int → Option ((List (S86)))
 | 0, _, _, _ => none
 | k + 1, x0, x3, x4 => if x4 < (x0.length : Int) then (if 0 ≤ x4 then ((eR.f ((d7 x0 x4).f0) ((d7 x0 x4).f1)).bind fun bt467 => (if x4 < (x3.length : Int) then (bS.l0 k x0 (x3.set (x4 : Int).toNat (⟨bt467.1, bt467.2⟩ : S86)) (wrap64 (x4 + 1))) else (none))) else (none)) else (some x3)
def bS.f (k : Nat) (l0 : List (dF)) : Option ((List (S86))) := if 0 ≤ (l0.length : Int) then (if ((l0.length : Int) : Int).toNat ≤ 8796093022208 then (bS.l0 k l0 (List.replicate ((l0.length : Int) : Int).toNat z86) 0) else (none)) else (none)
theorem bS.calls (k : Nat) (A0 : Option Addr) (c0 : Nat) (l0 : List (dF)) (r : List (S86)) (w : World) (hr0 : Kd.C iA w A0 l0.length l0) (hc0 : l0.length ≤ c0) (h : bS.f k l0 = some r) :
  Calls Tryz.prog 164 #[.slice A0 l0.length c0] w fun e w' => ∃ v0_ : Value, e = .returned (v0_) ∧ Kd.R k86 86 w' w.heap.size (fun _ => True) v0_ r ∧ Below w.heap.size w w' := by
 have hu200 := Tryz.underlying200; have hu86 := Tryz.underlying86; have HR0 := am_ hr0; have HC0 := am_ hc0; clear hr0 hc0; have HB := am_ (Below.refl w.heap.size w); have H := h; clear h; unfold bS.f at H
 obtain ⟨c2b0, c2b1, H⟩ := ge_ H; obtain ⟨c3b0, c3b1, H⟩ := ge_ H; generalize hy463 : ((List.replicate ((l0.length : Int) : Int).toNat z86) : List (S86)) = y463 at H; have Ny463 := am_ hy463.symm; clear hy463; have H' := am_ H; clear H; go_enter Tryz.func164, Tryz.ntmps164
 go_wp2_with (first | ((with_reducible refine aA (N := 7) rfl ?_); refine Kd.R_make k86 _ 86 rfl (N := 7) rfl 42 _ _ rfl (l0.length : Int) rfl rfl Tryz.underlying42 (.agg #[(.string ⟨#[]⟩), (.string ⟨#[]⟩)]) 32 info86 rfl bh u7_ z86 (ok := fun _ => True) (okp := fun _ => True) (pp _ _ _ z86 ) (fun _ hk => hk) trivial (od_) (Nat.le_trans (Nat.mul_le_mul_right _ (od_ : (l0.length : Int).toNat ≤ 8796093022208)) u7_) (Below.refl _ _) (Nat.le_refl _) ?_; intro v464 w4 ho5 hb hg_ hnew_; clear hg_ hnew_; (first | rw [← Ny463.out] at ho5 | (simp only [Int.reduceToNat] at ho5; rw [← Ny463.out] at ho5)); have HO465 := am_ (Kd.R_lower ho5 (ar (bw_ HB))); replace HB := bs_ HB hb; clear hb ho5))
 go_loopg [4] k (fun kq v4 w' => ∃ (x3_1 : List (S86)) (x4_1 : Int), v4 = .int .i64 x4_1 ∧ aa (bS.l0 kq l0 x3_1 x4_1 = some r) ∧ aa (kq ≤ k) ∧ aa (Kd.R k86 86 w' w.heap.size (fun _ => True) v464 x3_1) ∧ aa (Below w.heap.size w w'))
 case atStart => exact ⟨(y463), (0), u1_, H', ⟨Nat.le_refl _⟩, ⟨aR_ HO465.out⟩, ⟨bw_ HB⟩⟩
 case round =>
  clear H'; try clear c2b0
  try clear c2b1
  try clear c3b0
  try clear c3b1
  obtain ⟨x3_1, x4_1, rfl, HA, HK1, HO_3, HB⟩ := hrel; cases gk with
  | zero => exact absurd HA.out (by simp [bS.l0])
  | succ k1 =>
   have H := HA.out; clear HA; simp only [bS.l0] at H; by_cases c6 : x4_1 < (l0.length : Int)
   ·rw [if_pos c6] at H; have c6b0 := decide_eq_true c6; clear c6; obtain ⟨c7b0, H⟩ := gd_ H; obtain ⟨⟨t467, t468⟩, A8, H⟩ := bi_ H; dsimp only at H; obtain ⟨c9b0, H⟩ := gd_ H; generalize hy469 : ((x3_1.set (x4_1 : Int).toNat (⟨t467, t468⟩ : S86)) : List (S86)) = y469 at H; have Ny469 := am_ hy469.symm; clear hy469; have H' := am_ H; clear H; obtain ⟨ad466, e466, hx466_0, hx466_1⟩ := pR HR0.out x4_1 od_ od_; cases e466; replace hx466_0 := cb_ HB hx466_0; replace hx466_1 := cb_ HB hx466_1; obtain ⟨p466, q466⟩ := pt_ x4_1 l0.length; go_wp2_with (first | ((with_reducible refine gt_ 20 ?_); refine gB_ 20 Tryz.func184 (eR.calls ((d7 l0 x4_1).f0) ((d7 l0 x4_1).f1) t467 t468 _ A8.out) ?_; intro w11 hb; replace HO_3 := am_ (Kd.R_below (aR_ HO_3.out) hb); replace HB := bs_ HB hb; (try clear hb); have p10 : 0 ≤ (x4_1 : Int) := od_; have q10 : (x4_1 : Int) < ((x3_1.length : Int) : Int) := od_; obtain ⟨go10, co10, eo10, gb10, gl10, cl10, HG10⟩ := Kd.R_form HO_3.out u7_; (first | cases eo10 | (injection eo10 with ea_ en_ ec_; (first | subst ea_ | (injection ea_ with ea_; subst ea_)); subst ec_; clear en_)); have GB10 := am_ gb10; have GG10 := am_ HG10; clear gb10 gl10 HG10; obtain ⟨ce10, hcl10, hM10, hcc10, hfr10⟩ := Kd.R_elem HO_3.out z86 (x4_1 : Int) p10 q10; obtain rfl := js hM10; have hx10_0 : w11.cell? ⟨go10, (x4_1 : Int).toNat * 2, none⟩ = some (.string ((ai x3_1 x4_1).f0)) := hcc10 0 _ rfl; have hx10_1 : w11.cell? ⟨go10, (x4_1 : Int).toNat * 2 + 1, none⟩ = some (.string ((ai x3_1 x4_1).f1)) := hcc10 1 _ rfl; have hf10_0 : w11.frozen? ⟨go10, (x4_1 : Int).toNat * 2, none⟩ = false := hfr10 0; have hf10_1 : w11.frozen? ⟨go10, (x4_1 : Int).toNat * 2 + 1, none⟩ = false := hfr10 1; clear hcl10 hcc10 hfr10 hM10; obtain ⟨p10, q10⟩ := tt_ p10 q10; have HX12 := am_ (show Kd.R k86 86 w11 w.heap.size (fun _ => True) (.slice (some ⟨go10, 0, none⟩) x3_1.length co10) x3_1 from (aR_ HO_3.out)); obtain ⟨ce12, hcl12, hM12, hcc12, hfr12⟩ := Kd.R_elem HX12.out z86 (x4_1 : Int) (od_) (by have h_ : (x4_1 : Int) < ((x3_1.length : Int) : Int) := od_; first | exact h_ | (have e_ := (Kd.R_reads' HO_3.out).1; omega) | simpa using h_); obtain rfl := js hM12; have HP12 := Kd.R_seg HX12.out (x4_1 : Int) (od_) (by have h_ : (x4_1 : Int) < ((x3_1.length : Int) : Int) := od_; first | exact h_ | (have e_ := (Kd.R_reads' HO_3.out).1; omega) | simpa using h_) (seg := [.string t467, .string t468]) (j := 0) hcl12 hcc12 (show 2 ≤ 2 from bh) (x' := (⟨t467, t468⟩ : S86)) (pp _ _ _ (⟨t467, t468⟩ : S86) ) (fun _ hk => hk); have hx12_0 := hcc12 0 _ rfl; (try simp only [show (k86).sz = 2 from rfl, Nat.mul_one, Nat.add_zero] at hx12_0); have hf12_0 := hfr12 0; (try simp only [show (k86).sz = 2 from rfl, Nat.mul_one, Nat.add_zero] at hf12_0); have hx12_1 := hcc12 1 _ rfl; (try simp only [show (k86).sz = 2 from rfl, Nat.mul_one, Nat.add_zero] at hx12_1); have hf12_1 := hfr12 1; (try simp only [show (k86).sz = 2 from rfl, Nat.mul_one, Nat.add_zero] at hf12_1); clear hcl12 hcc12 hfr12 hM12) | ((with_reducible refine fc (t := 86) (p := 21) rfl ?_); refine eO (t := 86) (p := 21) (v := ?vo_w13) (w1 := ((w11.setCell ⟨go10, (x4_1 : Int).toNat * 2, none⟩ (.string t467)).setCell ⟨go10, (x4_1 : Int).toNat * 2 + 1, none⟩ (.string t468))) ?hg ?ho ?hn ?hr ?_; (case ho => rfl); (case hg => rfl); (case hn => rfl); (case hr => exact u6_); intro w13 hw; have hg : w11.grownBy w13 (some go10) := (by rw [hw]; exact HP12.2); have hp_ : Kd.R k86 86 w13 w.heap.size (fun _ => True) (.slice (some ⟨go10, 0, none⟩) x3_1.length co10) y469 := (by rw [hw, Ny469.out]; exact HP12.1); clear HP12; replace HO_3 := am_ (hp_); replace HB := am_ ((by rw [hw]; exact bo (bo (HB.out) GB10.out) GB10.out : Below w.heap.size w w13)); clear hg hw hp_))
    go_roundg k1
    case measure => have := HK1.out; omega
    case rel => exact ⟨(y469), (wrap64 (x4_1 + 1)), u1_, H', ⟨dk⟩, ⟨aR_ HO_3.out⟩, ⟨bw_ HB⟩⟩
   ·rw [if_neg c6] at H; have c6b0 := decide_eq_false c6; clear c6; obtain rfl := si_ H; go_wp2; go_ret
    exact ⟨_, u0_, aR_ HO_3.out, bw_ HB⟩
def eI.f (k : Nat) (a0_0 : ByteArray) (l0_1 : List (dF)) : Option (ByteArray × (List (S86))) := (bS.f k l0_1).bind fun t473 => (some (a0_0, t473))
theorem eI.calls (k : Nat) (a0_0 : ByteArray) (A0_1 : Option Addr) (c0_1 : Nat) (l0_1 : List (dF)) (r1 : ByteArray) (r2 : List (S86)) (w : World) (hr0_1 : Kd.C iA w A0_1 l0_1.length l0_1) (hc0_1 : l0_1.length ≤ c0_1) (h : eI.f k a0_0 l0_1 = some (r1, r2)) :
  Calls Tryz.prog 145 #[.agg #[.string a0_0, .slice A0_1 l0_1.length c0_1]] w fun e w' => ∃ v1_ : Value, e = .returned (.agg #[.string r1, v1_]) ∧ Kd.R k86 86 w' w.heap.size (fun _ => True) v1_ r2 ∧ Below w.heap.size w w' := by
 have hu131 := Tryz.underlying131; have hu44 := Tryz.underlying44; have HR0_1 := am_ hr0_1; have HC0_1 := am_ hc0_1; clear hr0_1 hc0_1; have HB := am_ (Below.refl w.heap.size w); have H := h; clear h; unfold eI.f at H
 obtain ⟨t473, A2, H⟩ := bi_ H; simp only [Option.some.injEq, Prod.mk.injEq] at H; obtain ⟨rfl, rfl⟩ := H; go_enter Tryz.func145, Tryz.ntmps145
 go_wp2_with (first | ((with_reducible refine gt_ 1 ?_); refine bx_ 1 #[.string a0_0, .slice A0_1 l0_1.length c0_1] 131 ?_; intro gb470 hg w3 hbox hb; have BK470 := am_ (hbox); have GE470 := gw_ HB hg; replace HB := bs_ HB hb; clear hb hbox hg) | ((with_reducible refine gt_ 2 ?_); refine bx_ 2 #[.string (⟨#[]⟩ : ByteArray), .slice none 0 0] 44 ?_; intro gb471 hg w4 hbox hb; have BK471 := am_ (hbox); have GE471 := gw_ HB hg; replace HB := bs_ HB hb; have NB470_471 := nl_ BK470 hg; have NB471_470 := ng_ BK470 hg; replace BK470 := bb_ BK470 hb; clear hb hbox hg) | ((with_reducible refine gt_ 3 ?_); refine bx_ 3 #[.string (⟨#[]⟩ : ByteArray), .slice none 0 0] 44 ?_; intro gb472 hg w5 hbox hb; have BK472 := am_ (hbox); have GE472 := gw_ HB hg; replace HB := bs_ HB hb; have NB470_472 := nl_ BK470 hg; have NB472_470 := ng_ BK470 hg; replace BK470 := bb_ BK470 hb; have NB471_472 := nl_ BK471 hg; have NB472_471 := ng_ BK471 hg; replace BK471 := bb_ BK471 hb; clear hb hbox hg; have hnb6 := NB470_471.out; have hnc6 := NB471_470.out; have hnb7 := NB470_472.out; have hnc7 := NB472_470.out; obtain ⟨hcz8_0, hcz8_1, hfz8_0, hfz8_1⟩ := bI BK470.out; have hnb9 := NB472_471.out; have hnc9 := NB471_472.out; obtain ⟨hcz10_0, hcz10_1, hfz10_0, hfz10_1⟩ := bI BK472.out) | ((with_reducible refine gt_ 9 ?_); refine gf_ 9 Tryz.func164 (bS.calls k _ _ l0_1 t473 _ (kc_ HR0_1 HB) HC0_1.out A2.out) ?_; rintro e w11 ⟨v474, rfl, ho0, hb⟩; refine ⟨_, rfl, ?_⟩; have HO475 := am_ (Kd.R_lower ho0 (ar (bw_ HB))); replace BK471 := bb_ BK471 hb; replace BK472 := am_ (a7 (g := gb472) (o := .cells #[.string a0_0, .slice none 0 0] 44 (0, 0)) (pb_ BK472) hb); replace HB := bs_ HB hb; (try clear hb); (try clear ho0); obtain ⟨Ao12, co12, eo12⟩ := Kd.R_slice HO475.out; subst eo12; obtain ⟨hcz13_0, hcz13_1, hfz13_0, hfz13_1⟩ := bI BK472.out; obtain ⟨hcz14_0, hcz14_1, hfz14_0, hfz14_1⟩ := bI BK471.out))
 refine bodyPost_ret (results_cell_row rfl _ _ gb471 44 #[.string a0_0, .slice Ao12 t473.length co12] (0, 0) _ rfl (pb_ BK471) Tryz.underlying44 rfl cn) rfl ?_; exact ⟨_, u0_, by (with_reducible repeat (first | apply Kd.R_alloc | apply Kd.R_drewN | apply Kd.R_drew)); exact Kd.R_mono (Kd.R_far (p := ⟨gb471, 1, none⟩) (Kd.R_far (p := ⟨gb471, 0, none⟩) (Kd.R_far (p := ⟨gb472, 1, none⟩) (Kd.R_types (Kd.R_types HO475.out BK472.out bh) BK471.out bh) (fun _ hk => hk.1.2) (.slice Ao12 t473.length co12)) (fun _ hk => hk.2) (.string a0_0)) (fun _ hk => hk.2) (.slice Ao12 t473.length co12)) (fun _ hk => trivial), bw_ HB⟩
def eH.f (k : Nat) (a0_0 : Int) (a0_1 : ByteArray) (l0_2 : List (dF)) : Option (Int × ByteArray × (List (S86))) := (eI.f k a0_1 l0_2).bind fun bt479 => (some (a0_0, bt479.1, bt479.2))
theorem eH.calls (k : Nat) (a0_0 : Int) (a0_1 : ByteArray) (A0_2 : Option Addr) (c0_2 : Nat) (l0_2 : List (dF)) (r1 : Int) (r2 : ByteArray) (r3 : List (S86)) (w : World) (hr0_2 : Kd.C iA w A0_2 l0_2.length l0_2) (hc0_2 : l0_2.length ≤ c0_2) (h : eH.f k a0_0 a0_1 l0_2 = some (r1, r2, r3)) :
  Calls Tryz.prog 106 #[.agg #[.int .i64 a0_0, .string a0_1, .slice A0_2 l0_2.length c0_2]] w fun e w' => ∃ v2_ : Value, e = .returned (.agg #[.int .i64 r1, .string r2, v2_]) ∧ Kd.R k86 86 w' w.heap.size (fun _ => True) v2_ r3 ∧ Below w.heap.size w w' := by
 have hu133 := Tryz.underlying133; have hu46 := Tryz.underlying46; have hu131 := Tryz.underlying131; have hu44 := Tryz.underlying44; have HR0_2 := am_ hr0_2; have HC0_2 := am_ hc0_2; clear hr0_2 hc0_2; have HB := am_ (Below.refl w.heap.size w); have H := h; clear h; unfold eH.f at H
 obtain ⟨⟨t479, t480⟩, A2, H⟩ := bi_ H; dsimp only at H; simp only [Option.some.injEq, Prod.mk.injEq] at H; obtain ⟨rfl, rfl, rfl⟩ := H; go_enter Tryz.func106, Tryz.ntmps106
 go_wp2_with (first | ((with_reducible refine gt_ 1 ?_); refine bx_ 1 #[.int .i64 a0_0, .string a0_1, .slice A0_2 l0_2.length c0_2] 133 ?_; intro gb476 hg w3 hbox hb; have BK476 := am_ (hbox); have GE476 := gw_ HB hg; replace HB := bs_ HB hb; clear hb hbox hg) | ((with_reducible refine gt_ 2 ?_); refine bx_ 2 #[.int .i64 0, .string (⟨#[]⟩ : ByteArray), .slice none 0 0] 46 ?_; intro gb477 hg w4 hbox hb; have BK477 := am_ (hbox); have GE477 := gw_ HB hg; replace HB := bs_ HB hb; have NB476_477 := nl_ BK476 hg; have NB477_476 := ng_ BK476 hg; replace BK476 := bb_ BK476 hb; clear hb hbox hg) | ((with_reducible refine gt_ 3 ?_); refine bx_ 3 #[.int .i64 0, .string (⟨#[]⟩ : ByteArray), .slice none 0 0] 46 ?_; intro gb478 hg w5 hbox hb; have BK478 := am_ (hbox); have GE478 := gw_ HB hg; replace HB := bs_ HB hb; have NB476_478 := nl_ BK476 hg; have NB478_476 := ng_ BK476 hg; replace BK476 := bb_ BK476 hb; have NB477_478 := nl_ BK477 hg; have NB478_477 := ng_ BK477 hg; replace BK477 := bb_ BK477 hb; clear hb hbox hg; have hnb6 := NB476_477.out; have hnc6 := NB477_476.out; have hnb7 := NB476_478.out; have hnc7 := NB478_476.out; obtain ⟨hcz8_0, hcz8_1, hcz8_2, hfz8_0, hfz8_1, hfz8_2⟩ := bO BK476.out; have hnb9 := NB478_477.out; have hnc9 := NB477_478.out; obtain ⟨hcz10_0, hcz10_1, hcz10_2, hfz10_0, hfz10_1, hfz10_2⟩ := bO BK478.out) | ((with_reducible refine gt_ 9 ?_); refine gf_ 9 Tryz.func145 (eI.calls k a0_1 _ _ l0_2 t479 t480 _ (kc_ HR0_2 HB) HC0_2.out A2.out) ?_; rintro e w11 ⟨v481, rfl, ho0, hb⟩; refine ⟨_, rfl, ?_⟩; have HO482 := am_ (Kd.R_lower ho0 (ar (bw_ HB))); replace BK477 := bb_ BK477 hb; replace BK478 := am_ (a7 (g := gb478) (o := .cells #[.int .i64 a0_0, .string (⟨#[]⟩ : ByteArray), .slice none 0 0] 46 (0, 0)) (pb_ BK478) hb); replace HB := bs_ HB hb; (try clear hb); (try clear ho0); obtain ⟨hcz12_0, hcz12_1, hcz12_2, hfz12_0, hfz12_1, hfz12_2⟩ := bO BK478.out; obtain ⟨Ao13, co13, eo13⟩ := Kd.R_slice HO482.out; subst eo13; obtain ⟨hcz14_0, hcz14_1, hcz14_2, hfz14_0, hfz14_1, hfz14_2⟩ := bO BK477.out))
 refine bodyPost_ret (results_cell_row rfl _ _ gb477 46 #[.int .i64 a0_0, .string t479, .slice Ao13 t480.length co13] (0, 0) _ rfl (pb_ BK477) Tryz.underlying46 rfl cn) rfl ?_; exact ⟨_, u0_, by (with_reducible repeat (first | apply Kd.R_alloc | apply Kd.R_drewN | apply Kd.R_drew)); exact Kd.R_mono (Kd.R_far (p := ⟨gb477, 2, none⟩) (Kd.R_far (p := ⟨gb477, 1, none⟩) (Kd.R_far (p := ⟨gb477, 0, none⟩) (Kd.R_far (p := ⟨gb478, 2, none⟩) (Kd.R_far (p := ⟨gb478, 1, none⟩) (Kd.R_types (Kd.R_types HO482.out BK478.out bh) BK477.out bh) (fun _ hk => hk.1.2) (.string t479)) (fun _ hk => hk.1.2) (.slice Ao13 t480.length co13)) (fun _ hk => hk.2) (.int .i64 a0_0)) (fun _ hk => hk.2) (.string t479)) (fun _ hk => hk.2) (.slice Ao13 t480.length co13)) (fun _ hk => trivial), bw_ HB⟩
def b9.l0 : Nat → List (dX) → List (S46) → Int → Option ((List (S46)))
 | 0, _, _, _ => none
 | k + 1, x0, x3, x4 => if x4 < (x0.length : Int) then (if 0 ≤ x4 then ((eH.f k ((cY x0 x4).f0) ((cY x0 x4).f1.f0) ((cY x0 x4).f1.f1)).bind fun bt487 => (if x4 < (x3.length : Int) then (b9.l0 k x0 (x3.set (x4 : Int).toNat (⟨bt487.1, (⟨bt487.2.1, bt487.2.2⟩ : S44)⟩ : S46)) (wrap64 (x4 + 1))) else (none))) else (none)) else (some x3)
def b9.f (k : Nat) (l0 : List (dX)) : Option ((List (S46))) := if 0 ≤ (l0.length : Int) then (if ((l0.length : Int) : Int).toNat ≤ 5864062014805 then (b9.l0 k l0 (List.replicate ((l0.length : Int) : Int).toNat z46) 0) else (none)) else (none)
theorem b9.calls (k : Nat) (A0 : Option Addr) (c0 : Nat) (l0 : List (dX)) (r : List (S46)) (w : World) (hr0 : Kd.C nQ w A0 l0.length l0) (hc0 : l0.length ≤ c0) (h : b9.f k l0 = some r) :
  Calls Tryz.prog 61 #[.slice A0 l0.length c0] w fun e w' => ∃ v0_ : Value, e = .returned (v0_) ∧ Kd.S k46 46 w' w.heap.size (fun _ => True) v0_ r ∧ Below w.heap.size w w' := by
 have hu133 := Tryz.underlying133; have hu46 := Tryz.underlying46; have HR0 := am_ hr0; have HC0 := am_ hc0; clear hr0 hc0; have HB := am_ (Below.refl w.heap.size w); have H := h; clear h; unfold b9.f at H
 obtain ⟨c2b0, c2b1, H⟩ := ge_ H; obtain ⟨c3b0, c3b1, H⟩ := ge_ H; generalize hy483 : ((List.replicate ((l0.length : Int) : Int).toNat z46) : List (S46)) = y483 at H; have Ny483 := am_ hy483.symm; clear hy483; have H' := am_ H; clear H; go_enter Tryz.func61, Tryz.ntmps61
 go_wp2_with (first | ((with_reducible refine aA (N := 7) rfl ?_); refine Kd.S_make k46 _ 46 rfl (N := 7) rfl 24 _ _ rfl (l0.length : Int) rfl rfl Tryz.underlying24 (.agg #[(.int .i64 0), (.string ⟨#[]⟩), (.slice none 0 0)]) 48 info46 rfl bh u7_ z46 (ok := fun _ => True) (okp := fun _ => True) (pL _ _ _ z46 (Kd.R_nil _ _ _ _ _)) (fun _ hk => hk) trivial (od_) (Nat.le_trans (Nat.mul_le_mul_right _ (od_ : (l0.length : Int).toNat ≤ 5864062014805)) u7_) (Below.refl _ _) (Nat.le_refl _) ?_; intro v484 w4 ho5 hb hg_ hnew_; clear hg_ hnew_; (first | rw [← Ny483.out] at ho5 | (simp only [Int.reduceToNat] at ho5; rw [← Ny483.out] at ho5)); have HO485 := am_ (Kd.S_lower ho5 (ar (bw_ HB))); replace HB := bs_ HB hb; clear hb ho5))
 go_loopg [4] k (fun kq v4 w' => ∃ (x3_1 : List (S46)) (x4_1 : Int), v4 = .int .i64 x4_1 ∧ aa (b9.l0 kq l0 x3_1 x4_1 = some r) ∧ aa (kq ≤ k) ∧ aa (Kd.S k46 46 w' w.heap.size (fun _ => True) v484 x3_1) ∧ aa (Below w.heap.size w w'))
 case atStart => exact ⟨(y483), (0), u1_, H', ⟨Nat.le_refl _⟩, ⟨aS_ HO485.out⟩, ⟨bw_ HB⟩⟩
 case round =>
  clear H'; try clear c2b0
  try clear c2b1
  try clear c3b0
  try clear c3b1
  obtain ⟨x3_1, x4_1, rfl, HA, HK1, HO_3, HB⟩ := hrel; cases gk with
  | zero => exact absurd HA.out (by simp [b9.l0])
  | succ k1 =>
   have H := HA.out; clear HA; simp only [b9.l0] at H; by_cases c6 : x4_1 < (l0.length : Int)
   ·rw [if_pos c6] at H; have c6b0 := decide_eq_true c6; clear c6; obtain ⟨c7b0, H⟩ := gd_ H; obtain ⟨⟨t487, t488, t489⟩, A8, H⟩ := bi_ H; dsimp only at H; obtain ⟨c9b0, H⟩ := gd_ H; generalize hy492 : ((x3_1.set (x4_1 : Int).toNat (⟨t487, (⟨t488, t489⟩ : S44)⟩ : S46)) : List (S46)) = y492 at H; have Ny492 := am_ hy492.symm; clear hy492; have H' := am_ H; clear H; obtain ⟨ad486, A486_2, c486_2, e486, hx486_0, hx486_1, hx486_2, hl486_2, hi486_2⟩ := pq HR0.out x4_1 od_ od_; cases e486; replace hx486_0 := cb_ HB hx486_0; replace hx486_1 := cb_ HB hx486_1; replace hx486_2 := cb_ HB hx486_2; have HR486_2 := am_ hi486_2; have HC486_2 := am_ hl486_2; clear hi486_2 hl486_2; obtain ⟨p486, q486⟩ := pt_ x4_1 l0.length; go_wp2_with (first | ((with_reducible refine gt_ 20 ?_); refine gf_ 20 Tryz.func106 (eH.calls k1 ((cY l0 x4_1).f0) ((cY l0 x4_1).f1.f0) _ _ ((cY l0 x4_1).f1.f1) t487 t488 t489 _ (kc_ HR486_2 HB) HC486_2.out A8.out) ?_; rintro e w11 ⟨v490, rfl, ho0, hb⟩; refine ⟨_, rfl, ?_⟩; replace HO_3 := am_ (Kd.S_elder' (aS_ HO_3.out) (Kd.R_base ho0) hb); have HO491 := am_ (Kd.R_lower ho0 (ar (bw_ HB))); replace HB := bs_ HB hb; (try clear hb); (try clear ho0); have p10 : 0 ≤ (x4_1 : Int) := od_; have q10 : (x4_1 : Int) < ((x3_1.length : Int) : Int) := od_; obtain ⟨go10, co10, eo10, gb10, gl10, cl10, HG10⟩ := Kd.S_form HO_3.out u7_; (first | cases eo10 | (injection eo10 with ea_ en_ ec_; (first | subst ea_ | (injection ea_ with ea_; subst ea_)); subst ec_; clear en_)); have GB10 := am_ gb10; have GG10 := am_ HG10; clear gb10 gl10 HG10; obtain ⟨_, ce10, hcl10, hM10, hcc10, hfr10, _, _⟩ := Kd.S_elem HO_3.out z46 (x4_1 : Int) p10 q10; obtain ⟨ve10_2, rfl, ge10_2⟩ := jM hM10; have hx10_0 : w11.cell? ⟨go10, (x4_1 : Int).toNat * 3, none⟩ = some (.int .i64 ((ah x3_1 x4_1).f0)) := hcc10 0 _ rfl; have hx10_1 : w11.cell? ⟨go10, (x4_1 : Int).toNat * 3 + 1, none⟩ = some (.string ((ah x3_1 x4_1).f1.f0)) := hcc10 1 _ rfl; have hx10_2 : w11.cell? ⟨go10, (x4_1 : Int).toNat * 3 + 2, none⟩ = some (ve10_2) := hcc10 2 _ rfl; have hf10_0 : w11.frozen? ⟨go10, (x4_1 : Int).toNat * 3, none⟩ = false := hfr10 0; have hf10_1 : w11.frozen? ⟨go10, (x4_1 : Int).toNat * 3 + 1, none⟩ = false := hfr10 1; have hf10_2 : w11.frozen? ⟨go10, (x4_1 : Int).toNat * 3 + 2, none⟩ = false := hfr10 2; clear hcl10 hcc10 hfr10 hM10; obtain ⟨p10, q10⟩ := tt_ p10 q10; have n_ := am_ (Kd.S_mono (ok' := (fun k_ => some k_ ≠ (v490 : Value).ownBlock)) HO_3.out (fun k_ hk => hk.2)); clear HO_3; have HO_3 := n_; clear n_; have HX12 := am_ (show Kd.S k46 46 w11 w.heap.size (fun k_ => ((fun _ => True)) k_ ∧ ¬ ((fun k_ => some k_ = (v490 : Value).ownBlock)) k_) (.slice (some ⟨go10, 0, none⟩) x3_1.length co10) x3_1 from u62_); obtain ⟨oki12, ce12, hcl12, hM12, hcc12, hfr12, hoki12, hH12⟩ := Kd.S_elem HX12.out z46 (x4_1 : Int) (od_) (by have h_ : (x4_1 : Int) < ((x3_1.length : Int) : Int) := od_; first | exact h_ | (have e_ := (Kd.S_reads' HO_3.out).1; omega) | simpa using h_); obtain ⟨ve12_2, rfl, ge12_2⟩ := jM hM12; have HP12 := Kd.S_seg hH12 (od_) (by have h_ : (x4_1 : Int) < ((x3_1.length : Int) : Int) := od_; first | exact h_ | (have e_ := (Kd.S_reads' HO_3.out).1; omega) | simpa using h_) (seg := [.int .i64 t487, .string t488, v490]) (j := 0) (show 3 ≤ 3 from bh) (x' := (⟨t487, (⟨t488, t489⟩ : S44)⟩ : S46)) (pL _ _ _ (⟨t487, (⟨t488, t489⟩ : S44)⟩ : S46) (Kd.R_mono (Kd.R_tight rfl (Kd.R_mono (ok' := fun k_ => ((fun _ => True)) k_ ∧ k_ ≠ go10) (Kd.R_apart' (HO491.out) (Kd.S_typed HO_3.out) bh) (fun k_ hk => ⟨trivial, fun e_ => (hk.2) (by rw [e_]; rfl)⟩))) (fun _ h_ => Or.inr (h_)))) (fun _ hk => hk) (fun k_ hk_ => ((Kd.R_mono (ok' := fun k_ => ((fun _ => True)) k_ ∧ k_ ≠ go10) (Kd.R_apart' (HO491.out) (Kd.S_typed HO_3.out) bh) (fun k_ hk => ⟨trivial, fun e_ => (hk.2) (by rw [e_]; rfl)⟩))).1 k_ hk_.symm); have hx12_0 := hcc12 0 _ rfl; (try simp only [show (k46).sz = 3 from rfl, Nat.mul_one, Nat.add_zero] at hx12_0); have hf12_0 := hfr12 0; (try simp only [show (k46).sz = 3 from rfl, Nat.mul_one, Nat.add_zero] at hf12_0); have hx12_1 := hcc12 1 _ rfl; (try simp only [show (k46).sz = 3 from rfl, Nat.mul_one, Nat.add_zero] at hx12_1); have hf12_1 := hfr12 1; (try simp only [show (k46).sz = 3 from rfl, Nat.mul_one, Nat.add_zero] at hf12_1); have hx12_2 := hcc12 2 _ rfl; (try simp only [show (k46).sz = 3 from rfl, Nat.mul_one, Nat.add_zero] at hx12_2); have hf12_2 := hfr12 2; (try simp only [show (k46).sz = 3 from rfl, Nat.mul_one, Nat.add_zero] at hf12_2); clear hcl12 hcc12 hfr12 hM12 hoki12 hH12) | ((with_reducible refine fc (t := 46) (p := 21) rfl ?_); refine eO (t := 46) (p := 21) (v := ?vo_w13) (w1 := (((w11.setCell ⟨go10, (x4_1 : Int).toNat * 3, none⟩ (.int .i64 t487)).setCell ⟨go10, (x4_1 : Int).toNat * 3 + 1, none⟩ (.string t488)).setCell ⟨go10, (x4_1 : Int).toNat * 3 + 2, none⟩ (v490))) ?hg ?ho ?hn ?hr ?_; (case ho => rfl); (case hg => rfl); (case hn => rfl); (case hr => first | (go_simp; done) | (go_simp; rfl) | (obtain ⟨_, _, e_⟩ := Kd.R_slice HO491.out; subst e_; first | (go_simp; done) | (go_simp; rfl))); intro w13 hw; have hg : w11.grownBy w13 (some go10) := (by rw [hw]; exact HP12.2); have hp_ : Kd.S k46 46 w13 w.heap.size (fun _ => True) (.slice (some ⟨go10, 0, none⟩) x3_1.length co10) y492 := (by rw [hw, Ny492.out]; exact HP12.1); clear HP12; replace HO_3 := am_ (hp_); replace HB := am_ ((by rw [hw]; exact bo (bo (bo (HB.out) GB10.out) GB10.out) GB10.out : Below w.heap.size w w13)); clear HO491 hg hw hp_))
    go_roundg k1
    case measure => have := HK1.out; omega
    case rel => exact ⟨(y492), (wrap64 (x4_1 + 1)), u1_, H', ⟨dk⟩, ⟨aS_ HO_3.out⟩, ⟨bw_ HB⟩⟩
   ·rw [if_neg c6] at H; have c6b0 := decide_eq_false c6; clear c6; obtain rfl := si_ H; go_wp2; go_ret
    exact ⟨_, u0_, aS_ HO_3.out, bw_ HB⟩
def b8.l0 : Nat → List Int → List Int → Int → Option (List Int)
 | 0, _, _, _ => none
 | k + 1, x0, x3, x4 => if x4 < (x0.length : Int) then (if 0 ≤ x4 then (if x4 < (x3.length : Int) then (b8.l0 k x0 (x3.set (x4 : Int).toNat (rd x0 x4)) (wrap64 (x4 + 1))) else (none)) else (none)) else (some x3)
def b8.f (k : Nat) (l0 : List Int) : Option (List Int) := if 0 ≤ (l0.length : Int) then (if ((l0.length : Int) : Int).toNat ≤ 35184372088832 then (b8.l0 k l0 (List.replicate ((l0.length : Int) : Int).toNat 0) 0) else (none)) else (none)
theorem b8.calls (k : Nat) (A0 : Option Addr) (c0 : Nat) (l0 : List Int) (r : List Int) (w : World) (hr0 : Kd.C (Kd.int .i64) w A0 l0.length l0) (hc0 : l0.length ≤ c0) (h : b8.f k l0 = some r) :
  Calls Tryz.prog 185 #[.slice A0 l0.length c0] w fun e w' => ∃ v0_ : Value, e = .returned (v0_) ∧ Kd.R (Kd.int .i64) 3 w' w.heap.size (fun _ => True) v0_ r ∧ Below w.heap.size w w' := by
 have HR0 := am_ hr0; have HC0 := am_ hc0; clear hr0 hc0; have HB := am_ (Below.refl w.heap.size w); have H := h; clear h; unfold b8.f at H
 obtain ⟨c2b0, c2b1, H⟩ := ge_ H; obtain ⟨c3b0, c3b1, H⟩ := ge_ H; generalize hy493 : ((List.replicate ((l0.length : Int) : Int).toNat 0) : List Int) = y493 at H; have Ny493 := am_ hy493.symm; clear hy493; have H' := am_ H; clear H; go_enter Tryz.func185, Tryz.ntmps185
 go_wp2_with (first | ((with_reducible refine aA (N := 7) rfl ?_); refine Kd.R_make (Kd.int .i64) _ 3 rfl (N := 7) rfl 39 _ _ rfl (l0.length : Int) rfl rfl Tryz.underlying39 (.int .i64 0) 8 oe rfl bh u7_ 0 (ok := fun _ => True) (okp := fun _ => True) rfl (fun _ hk => hk) trivial (od_) (Nat.le_trans (Nat.mul_le_mul_right _ (od_ : (l0.length : Int).toNat ≤ 35184372088832)) u7_) (Below.refl _ _) (Nat.le_refl _) ?_; intro v494 w4 ho5 hb hg_ hnew_; clear hg_ hnew_; (first | rw [← Ny493.out] at ho5 | (simp only [Int.reduceToNat] at ho5; rw [← Ny493.out] at ho5)); have HO495 := am_ (Kd.R_lower ho5 (ar (bw_ HB))); replace HB := bs_ HB hb; clear hb ho5))
 go_loopg [4] k (fun kq v4 w' => ∃ (x3_1 : List Int) (x4_1 : Int), v4 = .int .i64 x4_1 ∧ aa (b8.l0 kq l0 x3_1 x4_1 = some r) ∧ aa (kq ≤ k) ∧ aa (Kd.R (Kd.int .i64) 3 w' w.heap.size (fun _ => True) v494 x3_1) ∧ aa (Below w.heap.size w w'))
 case atStart => exact ⟨(y493), (0), u1_, H', ⟨Nat.le_refl _⟩, ⟨aR_ HO495.out⟩, ⟨bw_ HB⟩⟩
 case round =>
  clear H'; try clear c2b0
  try clear c2b1
  try clear c3b0
  try clear c3b1
  obtain ⟨x3_1, x4_1, rfl, HA, HK1, HO_3, HB⟩ := hrel; cases gk with
  | zero => exact absurd HA.out (by simp [b8.l0])
  | succ k1 =>
   have H := HA.out; clear HA; simp only [b8.l0] at H; by_cases c6 : x4_1 < (l0.length : Int)
   ·rw [if_pos c6] at H; have c6b0 := decide_eq_true c6; clear c6; obtain ⟨c7b0, H⟩ := gd_ H; obtain ⟨c8b0, H⟩ := gd_ H; generalize hy497 : ((x3_1.set (x4_1 : Int).toNat (rd l0 x4_1)) : List Int) = y497 at H; have Ny497 := am_ hy497.symm; clear hy497; have H' := am_ H; clear H; obtain ⟨ad496, e496, hx496_0⟩ := Kd.at_int HR0.out x4_1 od_ od_; cases e496; replace hx496_0 := cb_ HB hx496_0; obtain ⟨p496, q496⟩ := pt_ x4_1 l0.length; have p9 : 0 ≤ (x4_1 : Int) := od_; have q9 : (x4_1 : Int) < ((x3_1.length : Int) : Int) := od_; obtain ⟨go9, co9, eo9, gb9, gl9, cl9, HG9⟩ := Kd.R_form HO_3.out u7_; (first | cases eo9 | (injection eo9 with ea_ en_ ec_; (first | subst ea_ | (injection ea_ with ea_; subst ea_)); subst ec_; clear en_))
    have GB9 := am_ gb9; have GG9 := am_ HG9; clear gb9 gl9 HG9; obtain ⟨hx9_0, hf9_0⟩ := Kd.R_celln 0 HO_3.out (x4_1 : Int) p9 q9; obtain ⟨p9, q9⟩ := tt_ p9 q9; have HP10 := Kd.R_putg HO_3.out (x4_1 : Int) (rd l0 x4_1); go_wp2_with (first | ((with_reducible refine fc (t := 3) (p := 20) rfl ?_); refine eO (t := 3) (p := 20) (v := ?vo_w11) (w1 := (wr.setCell ⟨go9, (x4_1 : Int).toNat, none⟩ (.int .i64 (rd l0 x4_1)))) ?hg ?ho ?hn ?hr ?_; (case ho => rfl); (case hg => rfl); (case hn => rfl); (case hr => exact u6_); intro w11 hw; have hg : wr.grownBy w11 (some go9) := (by rw [hw]; exact HP10.2); have hp_ : Kd.R (Kd.int .i64) 3 w11 w.heap.size (fun _ => True) (.slice (some ⟨go9, 0, none⟩) x3_1.length co9) y497 := (by rw [hw, Ny497.out]; exact HP10.1); clear HP10; replace HO_3 := am_ (hp_); replace HB := am_ ((by rw [hw]; exact bo (HB.out) GB9.out : Below w.heap.size w w11)); clear hg hw hp_))
    go_roundg k1
    case measure => have := HK1.out; omega
    case rel => exact ⟨(y497), (wrap64 (x4_1 + 1)), u1_, H', ⟨dk⟩, ⟨aR_ HO_3.out⟩, ⟨bw_ HB⟩⟩
   ·rw [if_neg c6] at H; have c6b0 := decide_eq_false c6; clear c6; obtain rfl := si_ H; go_wp2; go_ret
    exact ⟨_, u0_, aR_ HO_3.out, bw_ HB⟩
def ek.f (k : Nat) (a0_0 : Int) (l0_1 : List Int) : Option (Int × List Int) := (b8.f k l0_1).bind fun t501 => (some (a0_0, t501))
theorem ek.calls (k : Nat) (a0_0 : Int) (A0_1 : Option Addr) (c0_1 : Nat) (l0_1 : List Int) (r1 : Int) (r2 : List Int) (w : World) (hr0_1 : Kd.C (Kd.int .i64) w A0_1 l0_1.length l0_1) (hc0_1 : l0_1.length ≤ c0_1) (h : ek.f k a0_0 l0_1 = some (r1, r2)) :
  Calls Tryz.prog 165 #[.agg #[.int .i64 a0_0, .slice A0_1 l0_1.length c0_1]] w fun e w' => ∃ v1_ : Value, e = .returned (.agg #[.int .i64 r1, v1_]) ∧ Kd.R (Kd.int .i64) 3 w' w.heap.size (fun _ => True) v1_ r2 ∧ Below w.heap.size w w' := by
 have hu182 := Tryz.underlying182; have hu50 := Tryz.underlying50; have HR0_1 := am_ hr0_1; have HC0_1 := am_ hc0_1; clear hr0_1 hc0_1; have HB := am_ (Below.refl w.heap.size w); have H := h; clear h; unfold ek.f at H
 obtain ⟨t501, A2, H⟩ := bi_ H; simp only [Option.some.injEq, Prod.mk.injEq] at H; obtain ⟨rfl, rfl⟩ := H; go_enter Tryz.func165, Tryz.ntmps165
 go_wp2_with (first | ((with_reducible refine gt_ 1 ?_); refine bx_ 1 #[.int .i64 a0_0, .slice A0_1 l0_1.length c0_1] 182 ?_; intro gb498 hg w3 hbox hb; have BK498 := am_ (hbox); have GE498 := gw_ HB hg; replace HB := bs_ HB hb; clear hb hbox hg) | ((with_reducible refine gt_ 2 ?_); refine bx_ 2 #[.int .i64 0, .slice none 0 0] 50 ?_; intro gb499 hg w4 hbox hb; have BK499 := am_ (hbox); have GE499 := gw_ HB hg; replace HB := bs_ HB hb; have NB498_499 := nl_ BK498 hg; have NB499_498 := ng_ BK498 hg; replace BK498 := bb_ BK498 hb; clear hb hbox hg) | ((with_reducible refine gt_ 3 ?_); refine bx_ 3 #[.int .i64 0, .slice none 0 0] 50 ?_; intro gb500 hg w5 hbox hb; have BK500 := am_ (hbox); have GE500 := gw_ HB hg; replace HB := bs_ HB hb; have NB498_500 := nl_ BK498 hg; have NB500_498 := ng_ BK498 hg; replace BK498 := bb_ BK498 hb; have NB499_500 := nl_ BK499 hg; have NB500_499 := ng_ BK499 hg; replace BK499 := bb_ BK499 hb; clear hb hbox hg; have hnb6 := NB498_499.out; have hnc6 := NB499_498.out; have hnb7 := NB498_500.out; have hnc7 := NB500_498.out; obtain ⟨hcz8_0, hcz8_1, hfz8_0, hfz8_1⟩ := bI BK498.out; have hnb9 := NB500_499.out; have hnc9 := NB499_500.out; obtain ⟨hcz10_0, hcz10_1, hfz10_0, hfz10_1⟩ := bI BK500.out) | ((with_reducible refine gt_ 9 ?_); refine gf_ 9 Tryz.func185 (b8.calls k _ _ l0_1 t501 _ (kc_ HR0_1 HB) HC0_1.out A2.out) ?_; rintro e w11 ⟨v502, rfl, ho0, hb⟩; refine ⟨_, rfl, ?_⟩; have HO503 := am_ (Kd.R_lower ho0 (ar (bw_ HB))); replace BK499 := bb_ BK499 hb; replace BK500 := am_ (a7 (g := gb500) (o := .cells #[.int .i64 a0_0, .slice none 0 0] 50 (0, 0)) (pb_ BK500) hb); replace HB := bs_ HB hb; (try clear hb); (try clear ho0); obtain ⟨Ao12, co12, eo12⟩ := Kd.R_slice HO503.out; subst eo12; obtain ⟨hcz13_0, hcz13_1, hfz13_0, hfz13_1⟩ := bI BK500.out; obtain ⟨hcz14_0, hcz14_1, hfz14_0, hfz14_1⟩ := bI BK499.out))
 refine bodyPost_ret (results_cell_row rfl _ _ gb499 50 #[.int .i64 a0_0, .slice Ao12 t501.length co12] (0, 0) _ rfl (pb_ BK499) Tryz.underlying50 rfl cn) rfl ?_; exact ⟨_, u0_, by (with_reducible repeat (first | apply Kd.R_alloc | apply Kd.R_drewN | apply Kd.R_drew)); exact Kd.R_mono (Kd.R_far (p := ⟨gb499, 1, none⟩) (Kd.R_far (p := ⟨gb499, 0, none⟩) (Kd.R_far (p := ⟨gb500, 1, none⟩) (Kd.R_types (Kd.R_types HO503.out BK500.out bh) BK499.out bh) (fun _ hk => hk.1.2) (.slice Ao12 t501.length co12)) (fun _ hk => hk.2) (.int .i64 a0_0)) (fun _ hk => hk.2) (.slice Ao12 t501.length co12)) (fun _ hk => trivial), bw_ HB⟩
def bR.l0 : Nat → List (dY) → List (S50) → Int → Option ((List (S50)))
 | 0, _, _, _ => none
 | k + 1, x0, x3, x4 => if x4 < (x0.length : Int) then (if 0 ≤ x4 then ((ek.f k ((dx x0 x4).f0) ((dx x0 x4).f1)).bind fun bt508 => (if x4 < (x3.length : Int) then (bR.l0 k x0 (x3.set (x4 : Int).toNat (⟨bt508.1, bt508.2⟩ : S50)) (wrap64 (x4 + 1))) else (none))) else (none)) else (some x3)
def bR.f (k : Nat) (l0 : List (dY)) : Option ((List (S50))) := if 0 ≤ (l0.length : Int) then (if ((l0.length : Int) : Int).toNat ≤ 8796093022208 then (bR.l0 k l0 (List.replicate ((l0.length : Int) : Int).toNat z50) 0) else (none)) else (none)
theorem bR.calls (k : Nat) (A0 : Option Addr) (c0 : Nat) (l0 : List (dY)) (r : List (S50)) (w : World) (hr0 : Kd.C kn w A0 l0.length l0) (hc0 : l0.length ≤ c0) (h : bR.f k l0 = some r) :
  Calls Tryz.prog 146 #[.slice A0 l0.length c0] w fun e w' => ∃ v0_ : Value, e = .returned (v0_) ∧ Kd.S k50 50 w' w.heap.size (fun _ => True) v0_ r ∧ Below w.heap.size w w' := by
 have hu182 := Tryz.underlying182; have hu50 := Tryz.underlying50; have HR0 := am_ hr0; have HC0 := am_ hc0; clear hr0 hc0; have HB := am_ (Below.refl w.heap.size w); have H := h; clear h; unfold bR.f at H
 obtain ⟨c2b0, c2b1, H⟩ := ge_ H; obtain ⟨c3b0, c3b1, H⟩ := ge_ H; generalize hy504 : ((List.replicate ((l0.length : Int) : Int).toNat z50) : List (S50)) = y504 at H; have Ny504 := am_ hy504.symm; clear hy504; have H' := am_ H; clear H; go_enter Tryz.func146, Tryz.ntmps146
 go_wp2_with (first | ((with_reducible refine aA (N := 7) rfl ?_); refine Kd.S_make k50 _ 50 rfl (N := 7) rfl 34 _ _ rfl (l0.length : Int) rfl rfl Tryz.underlying34 (.agg #[(.int .i64 0), (.slice none 0 0)]) 32 jo rfl bh u7_ z50 (ok := fun _ => True) (okp := fun _ => True) (fW _ _ _ z50 (Kd.R_nil _ _ _ _ _)) (fun _ hk => hk) trivial (od_) (Nat.le_trans (Nat.mul_le_mul_right _ (od_ : (l0.length : Int).toNat ≤ 8796093022208)) u7_) (Below.refl _ _) (Nat.le_refl _) ?_; intro v505 w4 ho5 hb hg_ hnew_; clear hg_ hnew_; (first | rw [← Ny504.out] at ho5 | (simp only [Int.reduceToNat] at ho5; rw [← Ny504.out] at ho5)); have HO506 := am_ (Kd.S_lower ho5 (ar (bw_ HB))); replace HB := bs_ HB hb; clear hb ho5))
 go_loopg [4] k (fun kq v4 w' => ∃ (x3_1 : List (S50)) (x4_1 : Int), v4 = .int .i64 x4_1 ∧ aa (bR.l0 kq l0 x3_1 x4_1 = some r) ∧ aa (kq ≤ k) ∧ aa (Kd.S k50 50 w' w.heap.size (fun _ => True) v505 x3_1) ∧ aa (Below w.heap.size w w'))
 case atStart => exact ⟨(y504), (0), u1_, H', ⟨Nat.le_refl _⟩, ⟨aS_ HO506.out⟩, ⟨bw_ HB⟩⟩
 case round =>
  clear H'; try clear c2b0
  try clear c2b1
  try clear c3b0
  try clear c3b1
  obtain ⟨x3_1, x4_1, rfl, HA, HK1, HO_3, HB⟩ := hrel; cases gk with
  | zero => exact absurd HA.out (by simp [bR.l0])
  | succ k1 =>
   have H := HA.out; clear HA; simp only [bR.l0] at H; by_cases c6 : x4_1 < (l0.length : Int)
   ·rw [if_pos c6] at H; have c6b0 := decide_eq_true c6; clear c6; obtain ⟨c7b0, H⟩ := gd_ H; obtain ⟨⟨t508, t509⟩, A8, H⟩ := bi_ H; dsimp only at H; obtain ⟨c9b0, H⟩ := gd_ H; generalize hy512 : ((x3_1.set (x4_1 : Int).toNat (⟨t508, t509⟩ : S50)) : List (S50)) = y512 at H; have Ny512 := am_ hy512.symm; clear hy512; have H' := am_ H; clear H; obtain ⟨ad507, A507_1, c507_1, e507, hx507_0, hx507_1, hl507_1, hi507_1⟩ := pC HR0.out x4_1 od_ od_; cases e507; replace hx507_0 := cb_ HB hx507_0; replace hx507_1 := cb_ HB hx507_1; have HR507_1 := am_ hi507_1; have HC507_1 := am_ hl507_1; clear hi507_1 hl507_1; obtain ⟨p507, q507⟩ := pt_ x4_1 l0.length; go_wp2_with (first | ((with_reducible refine gt_ 20 ?_); refine gf_ 20 Tryz.func165 (ek.calls k1 ((dx l0 x4_1).f0) _ _ ((dx l0 x4_1).f1) t508 t509 _ (kc_ HR507_1 HB) HC507_1.out A8.out) ?_; rintro e w11 ⟨v510, rfl, ho0, hb⟩; refine ⟨_, rfl, ?_⟩; replace HO_3 := am_ (Kd.S_elder' (aS_ HO_3.out) (Kd.R_base ho0) hb); have HO511 := am_ (Kd.R_lower ho0 (ar (bw_ HB))); replace HB := bs_ HB hb; (try clear hb); (try clear ho0); have p10 : 0 ≤ (x4_1 : Int) := od_; have q10 : (x4_1 : Int) < ((x3_1.length : Int) : Int) := od_; obtain ⟨go10, co10, eo10, gb10, gl10, cl10, HG10⟩ := Kd.S_form HO_3.out u7_; (first | cases eo10 | (injection eo10 with ea_ en_ ec_; (first | subst ea_ | (injection ea_ with ea_; subst ea_)); subst ec_; clear en_)); have GB10 := am_ gb10; have GG10 := am_ HG10; clear gb10 gl10 HG10; obtain ⟨_, ce10, hcl10, hM10, hcc10, hfr10, _, _⟩ := Kd.S_elem HO_3.out z50 (x4_1 : Int) p10 q10; obtain ⟨ve10_1, rfl, ge10_1⟩ := ga hM10; have hx10_0 : w11.cell? ⟨go10, (x4_1 : Int).toNat * 2, none⟩ = some (.int .i64 ((ak x3_1 x4_1).f0)) := hcc10 0 _ rfl; have hx10_1 : w11.cell? ⟨go10, (x4_1 : Int).toNat * 2 + 1, none⟩ = some (ve10_1) := hcc10 1 _ rfl; have hf10_0 : w11.frozen? ⟨go10, (x4_1 : Int).toNat * 2, none⟩ = false := hfr10 0; have hf10_1 : w11.frozen? ⟨go10, (x4_1 : Int).toNat * 2 + 1, none⟩ = false := hfr10 1; clear hcl10 hcc10 hfr10 hM10; obtain ⟨p10, q10⟩ := tt_ p10 q10; have n_ := am_ (Kd.S_mono (ok' := (fun k_ => some k_ ≠ (v510 : Value).ownBlock)) HO_3.out (fun k_ hk => hk.2)); clear HO_3; have HO_3 := n_; clear n_; have HX12 := am_ (show Kd.S k50 50 w11 w.heap.size (fun k_ => ((fun _ => True)) k_ ∧ ¬ ((fun k_ => some k_ = (v510 : Value).ownBlock)) k_) (.slice (some ⟨go10, 0, none⟩) x3_1.length co10) x3_1 from u62_); obtain ⟨oki12, ce12, hcl12, hM12, hcc12, hfr12, hoki12, hH12⟩ := Kd.S_elem HX12.out z50 (x4_1 : Int) (od_) (by have h_ : (x4_1 : Int) < ((x3_1.length : Int) : Int) := od_; first | exact h_ | (have e_ := (Kd.S_reads' HO_3.out).1; omega) | simpa using h_); obtain ⟨ve12_1, rfl, ge12_1⟩ := ga hM12; have HP12 := Kd.S_seg hH12 (od_) (by have h_ : (x4_1 : Int) < ((x3_1.length : Int) : Int) := od_; first | exact h_ | (have e_ := (Kd.S_reads' HO_3.out).1; omega) | simpa using h_) (seg := [.int .i64 t508, v510]) (j := 0) (show 2 ≤ 2 from bh) (x' := (⟨t508, t509⟩ : S50)) (fW _ _ _ (⟨t508, t509⟩ : S50) (Kd.R_mono (Kd.R_tight rfl (Kd.R_mono (ok' := fun k_ => ((fun _ => True)) k_ ∧ k_ ≠ go10) (Kd.R_apart' (HO511.out) (Kd.S_typed HO_3.out) bh) (fun k_ hk => ⟨trivial, fun e_ => (hk.2) (by rw [e_]; rfl)⟩))) (fun _ h_ => Or.inr (h_)))) (fun _ hk => hk) (fun k_ hk_ => ((Kd.R_mono (ok' := fun k_ => ((fun _ => True)) k_ ∧ k_ ≠ go10) (Kd.R_apart' (HO511.out) (Kd.S_typed HO_3.out) bh) (fun k_ hk => ⟨trivial, fun e_ => (hk.2) (by rw [e_]; rfl)⟩))).1 k_ hk_.symm); have hx12_0 := hcc12 0 _ rfl; (try simp only [show (k50).sz = 2 from rfl, Nat.mul_one, Nat.add_zero] at hx12_0); have hf12_0 := hfr12 0; (try simp only [show (k50).sz = 2 from rfl, Nat.mul_one, Nat.add_zero] at hf12_0); have hx12_1 := hcc12 1 _ rfl; (try simp only [show (k50).sz = 2 from rfl, Nat.mul_one, Nat.add_zero] at hx12_1); have hf12_1 := hfr12 1; (try simp only [show (k50).sz = 2 from rfl, Nat.mul_one, Nat.add_zero] at hf12_1); clear hcl12 hcc12 hfr12 hM12 hoki12 hH12) | ((with_reducible refine fc (t := 50) (p := 21) rfl ?_); refine eO (t := 50) (p := 21) (v := ?vo_w13) (w1 := ((w11.setCell ⟨go10, (x4_1 : Int).toNat * 2, none⟩ (.int .i64 t508)).setCell ⟨go10, (x4_1 : Int).toNat * 2 + 1, none⟩ (v510))) ?hg ?ho ?hn ?hr ?_; (case ho => rfl); (case hg => rfl); (case hn => rfl); (case hr => first | (go_simp; done) | (go_simp; rfl) | (obtain ⟨_, _, e_⟩ := Kd.R_slice HO511.out; subst e_; first | (go_simp; done) | (go_simp; rfl))); intro w13 hw; have hg : w11.grownBy w13 (some go10) := (by rw [hw]; exact HP12.2); have hp_ : Kd.S k50 50 w13 w.heap.size (fun _ => True) (.slice (some ⟨go10, 0, none⟩) x3_1.length co10) y512 := (by rw [hw, Ny512.out]; exact HP12.1); clear HP12; replace HO_3 := am_ (hp_); replace HB := am_ ((by rw [hw]; exact bo (bo (HB.out) GB10.out) GB10.out : Below w.heap.size w w13)); clear HO511 hg hw hp_))
    go_roundg k1
    case measure => have := HK1.out; omega
    case rel => exact ⟨(y512), (wrap64 (x4_1 + 1)), u1_, H', ⟨dk⟩, ⟨aS_ HO_3.out⟩, ⟨bw_ HB⟩⟩
   ·rw [if_neg c6] at H; have c6b0 := decide_eq_false c6; clear c6; obtain rfl := si_ H; go_wp2; go_ret
    exact ⟨_, u0_, aS_ HO_3.out, bw_ HB⟩
def dS.f (k : Nat) (a0_0 : ByteArray) (a0_1 : ByteArray) (l0_2 : List (dY)) : Option (ByteArray × ByteArray × (List (S50))) := (bR.f k l0_2).bind fun t516 => (some (a0_0, a0_1, t516))
theorem dS.calls (k : Nat) (a0_0 : ByteArray) (a0_1 : ByteArray) (A0_2 : Option Addr) (c0_2 : Nat) (l0_2 : List (dY)) (r1 : ByteArray) (r2 : ByteArray) (r3 : List (S50)) (w : World) (hr0_2 : Kd.C kn w A0_2 l0_2.length l0_2) (hc0_2 : l0_2.length ≤ c0_2) (h : dS.f k a0_0 a0_1 l0_2 = some (r1, r2, r3)) :
  Calls Tryz.prog 107 #[.agg #[.string a0_0, .string a0_1, .slice A0_2 l0_2.length c0_2]] w fun e w' => ∃ v2_ : Value, e = .returned (.agg #[.string r1, .string r2, v2_]) ∧ Kd.S k50 50 w' w.heap.size (fun _ => True) v2_ r3 ∧ Below w.heap.size w w' := by
 have hu137 := Tryz.underlying137; have hu76 := Tryz.underlying76; have HR0_2 := am_ hr0_2; have HC0_2 := am_ hc0_2; clear hr0_2 hc0_2; have HB := am_ (Below.refl w.heap.size w); have H := h; clear h; unfold dS.f at H
 obtain ⟨t516, A2, H⟩ := bi_ H; simp only [Option.some.injEq, Prod.mk.injEq] at H; obtain ⟨rfl, rfl, rfl⟩ := H; go_enter Tryz.func107, Tryz.ntmps107
 go_wp2_with (first | ((with_reducible refine gt_ 1 ?_); refine bx_ 1 #[.string a0_0, .string a0_1, .slice A0_2 l0_2.length c0_2] 137 ?_; intro gb513 hg w3 hbox hb; have BK513 := am_ (hbox); have GE513 := gw_ HB hg; replace HB := bs_ HB hb; clear hb hbox hg) | ((with_reducible refine gt_ 2 ?_); refine bx_ 2 #[.string (⟨#[]⟩ : ByteArray), .string (⟨#[]⟩ : ByteArray), .slice none 0 0] 76 ?_; intro gb514 hg w4 hbox hb; have BK514 := am_ (hbox); have GE514 := gw_ HB hg; replace HB := bs_ HB hb; have NB513_514 := nl_ BK513 hg; have NB514_513 := ng_ BK513 hg; replace BK513 := bb_ BK513 hb; clear hb hbox hg) | ((with_reducible refine gt_ 3 ?_); refine bx_ 3 #[.string (⟨#[]⟩ : ByteArray), .string (⟨#[]⟩ : ByteArray), .slice none 0 0] 76 ?_; intro gb515 hg w5 hbox hb; have BK515 := am_ (hbox); have GE515 := gw_ HB hg; replace HB := bs_ HB hb; have NB513_515 := nl_ BK513 hg; have NB515_513 := ng_ BK513 hg; replace BK513 := bb_ BK513 hb; have NB514_515 := nl_ BK514 hg; have NB515_514 := ng_ BK514 hg; replace BK514 := bb_ BK514 hb; clear hb hbox hg; have hnb6 := NB513_514.out; have hnc6 := NB514_513.out; have hnb7 := NB513_515.out; have hnc7 := NB515_513.out; obtain ⟨hcz8_0, hcz8_1, hcz8_2, hfz8_0, hfz8_1, hfz8_2⟩ := bO BK513.out; have hnb9 := NB515_514.out; have hnc9 := NB514_515.out; obtain ⟨hcz10_0, hcz10_1, hcz10_2, hfz10_0, hfz10_1, hfz10_2⟩ := bO BK515.out) | ((with_reducible refine gt_ 12 ?_); refine gf_ 12 Tryz.func146 (bR.calls k _ _ l0_2 t516 _ (kc_ HR0_2 HB) HC0_2.out A2.out) ?_; rintro e w11 ⟨v517, rfl, ho0, hb⟩; refine ⟨_, rfl, ?_⟩; have HO518 := am_ (Kd.S_lower ho0 (ar (bw_ HB))); replace BK514 := bb_ BK514 hb; replace BK515 := am_ (a7 (g := gb515) (o := .cells #[.string a0_0, .string a0_1, .slice none 0 0] 76 (0, 0)) (pb_ BK515) hb); replace HB := bs_ HB hb; (try clear hb); (try clear ho0); obtain ⟨Ao12, co12, eo12⟩ := Kd.S_slice HO518.out; subst eo12; obtain ⟨hcz13_0, hcz13_1, hcz13_2, hfz13_0, hfz13_1, hfz13_2⟩ := bO BK515.out; obtain ⟨hcz14_0, hcz14_1, hcz14_2, hfz14_0, hfz14_1, hfz14_2⟩ := bO BK514.out))
 refine bodyPost_ret (results_cell_row rfl _ _ gb514 76 #[.string a0_0, .string a0_1, .slice Ao12 t516.length co12] (0, 0) _ rfl (pb_ BK514) Tryz.underlying76 rfl cn) rfl ?_; exact ⟨_, u0_, by (with_reducible repeat (first | apply Kd.S_alloc | apply Kd.S_drewN | apply Kd.S_drew)); exact Kd.S_mono (Kd.S_far (p := ⟨gb514, 2, none⟩) (Kd.S_far (p := ⟨gb514, 1, none⟩) (Kd.S_far (p := ⟨gb514, 0, none⟩) (Kd.S_far (p := ⟨gb515, 2, none⟩) (Kd.S_types (Kd.S_types HO518.out BK515.out bh) BK514.out bh) (fun _ hk => hk.1.2) (.slice Ao12 t516.length co12)) (fun _ hk => hk.2) (.string a0_0)) (fun _ hk => hk.2) (.string a0_1)) (fun _ hk => hk.2) (.slice Ao12 t516.length co12)) (fun _ hk => trivial), bw_ HB⟩
def bH.l0 : Nat → List (dZ) → List (S76) → Int → Option ((List (S76)))
 | 0, _, _, _ => none
 | k + 1, x0, x3, x4 => if x4 < (x0.length : Int) then (if 0 ≤ x4 then ((dS.f k ((da x0 x4).f0) ((da x0 x4).f1) ((da x0 x4).f2)).bind fun bt523 => (if x4 < (x3.length : Int) then (bH.l0 k x0 (x3.set (x4 : Int).toNat (⟨bt523.1, bt523.2.1, bt523.2.2⟩ : S76)) (wrap64 (x4 + 1))) else (none))) else (none)) else (some x3)
def bH.f (k : Nat) (l0 : List (dZ)) : Option ((List (S76))) := if 0 ≤ (l0.length : Int) then (if ((l0.length : Int) : Int).toNat ≤ 5026338869833 then (bH.l0 k l0 (List.replicate ((l0.length : Int) : Int).toNat z76) 0) else (none)) else (none)
theorem bH.calls (k : Nat) (A0 : Option Addr) (c0 : Nat) (l0 : List (dZ)) (r : List (S76)) (w : World) (hr0 : Kd.C n7 w A0 l0.length l0) (hc0 : l0.length ≤ c0) (h : bH.f k l0 = some r) :
  Calls Tryz.prog 62 #[.slice A0 l0.length c0] w fun e w' => ∃ v0_ : Value, e = .returned (v0_) ∧ Kd.R k76 76 w' w.heap.size (fun _ => True) v0_ r ∧ Below w.heap.size w w' := by
 have hu137 := Tryz.underlying137; have hu76 := Tryz.underlying76; have HR0 := am_ hr0; have HC0 := am_ hc0; clear hr0 hc0; have HB := am_ (Below.refl w.heap.size w); have H := h; clear h; unfold bH.f at H
 by_cases c2 : 0 ≤ (l0.length : Int)
 ·rw [if_pos c2] at H; have c2b0 := eq_true c2; have c2b1 := decide_eq_true c2; clear c2; obtain ⟨c3b0, c3b1, H⟩ := ge_ H; generalize hy519 : ((List.replicate ((l0.length : Int) : Int).toNat z76) : List (S76)) = y519 at H; have Ny519 := am_ hy519.symm; clear hy519; have H' := am_ H; clear H; go_enter Tryz.func62, Tryz.ntmps62
  go_wp2_with (first | ((with_reducible refine aA (N := 7) rfl ?_); refine Kd.R_make k76 _ 76 rfl (N := 7) rfl 25 _ _ rfl (l0.length : Int) rfl rfl Tryz.underlying25 (.agg #[(.string ⟨#[]⟩), (.string ⟨#[]⟩), (.slice none 0 0)]) 56 jD rfl bh u7_ z76 (ok := fun _ => True) (okp := fun _ => True) (ku _ _ _ z76 (Kd.R_nil _ _ _ _ _)) (fun _ hk => hk) trivial (od_) (Nat.le_trans (Nat.mul_le_mul_right _ (od_ : (l0.length : Int).toNat ≤ 5026338869833)) u7_) (Below.refl _ _) (Nat.le_refl _) ?_; intro v520 w4 ho5 hb hg_ hnew_; clear hg_ hnew_; (first | rw [← Ny519.out] at ho5 | (simp only [Int.reduceToNat] at ho5; rw [← Ny519.out] at ho5)); have HO521 := am_ (Kd.R_lower ho5 (ar (bw_ HB))); replace HB := bs_ HB hb; clear hb ho5))
  go_loopg [4] k (fun kq v4 w' => ∃ (x3_1 : List (S76)) (x4_1 : Int), v4 = .int .i64 x4_1 ∧ aa (bH.l0 kq l0 x3_1 x4_1 = some r) ∧ aa (kq ≤ k) ∧ aa (Kd.R k76 76 w' w.heap.size (fun _ => True) v520 x3_1) ∧ aa (Below w.heap.size w w'))
  case atStart => exact ⟨(y519), (0), u1_, H', ⟨Nat.le_refl _⟩, ⟨aR_ HO521.out⟩, ⟨bw_ HB⟩⟩
  case round =>
   clear H'; try clear c2
   try clear c2b0
   try clear c2b1
   try clear c3b0
   try clear c3b1
   obtain ⟨x3_1, x4_1, rfl, HA, HK1, HO_3, HB⟩ := hrel; cases gk with
   | zero => exact absurd HA.out (by simp [bH.l0])
   | succ k1 =>
    have H := HA.out; clear HA; simp only [bH.l0] at H; by_cases c6 : x4_1 < (l0.length : Int)
    ·rw [if_pos c6] at H; have c6b0 := decide_eq_true c6; clear c6; obtain ⟨c7b0, H⟩ := gd_ H; obtain ⟨⟨t523, t524, t525⟩, A8, H⟩ := bi_ H; dsimp only at H; obtain ⟨c9b0, H⟩ := gd_ H; generalize hy528 : ((x3_1.set (x4_1 : Int).toNat (⟨t523, t524, t525⟩ : S76)) : List (S76)) = y528 at H; have Ny528 := am_ hy528.symm; clear hy528; have H' := am_ H; clear H; obtain ⟨ad522, A522_2, c522_2, e522, hx522_0, hx522_1, hx522_2, hl522_2, hi522_2⟩ := pv HR0.out x4_1 od_ od_; cases e522; replace hx522_0 := cb_ HB hx522_0; replace hx522_1 := cb_ HB hx522_1; replace hx522_2 := cb_ HB hx522_2; have HR522_2 := am_ hi522_2; have HC522_2 := am_ hl522_2; clear hi522_2 hl522_2; obtain ⟨p522, q522⟩ := pt_ x4_1 l0.length; go_wp2_with (first | ((with_reducible refine gt_ 20 ?_); refine gf_ 20 Tryz.func107 (dS.calls k1 ((da l0 x4_1).f0) ((da l0 x4_1).f1) _ _ ((da l0 x4_1).f2) t523 t524 t525 _ (kc_ HR522_2 HB) HC522_2.out A8.out) ?_; rintro e w11 ⟨v526, rfl, ho0, hb⟩; refine ⟨_, rfl, ?_⟩; replace HO_3 := am_ (Kd.R_elder' (aR_ HO_3.out) (Kd.S_base ho0) hb); have HO527 := am_ (Kd.S_lower ho0 (ar (bw_ HB))); replace HB := bs_ HB hb; (try clear hb); (try clear ho0); have p10 : 0 ≤ (x4_1 : Int) := od_; have q10 : (x4_1 : Int) < ((x3_1.length : Int) : Int) := od_; obtain ⟨go10, co10, eo10, gb10, gl10, cl10, HG10⟩ := Kd.R_form HO_3.out u7_; (first | cases eo10 | (injection eo10 with ea_ en_ ec_; (first | subst ea_ | (injection ea_ with ea_; subst ea_)); subst ec_; clear en_)); have GB10 := am_ gb10; have GG10 := am_ HG10; clear gb10 gl10 HG10; obtain ⟨ce10, hcl10, hM10, hcc10, hfr10⟩ := Kd.R_elem HO_3.out z76 (x4_1 : Int) p10 q10; obtain ⟨ve10_2, rfl, ge10_2⟩ := g8 hM10; have hx10_0 : w11.cell? ⟨go10, (x4_1 : Int).toNat * 3, none⟩ = some (.string ((ab x3_1 x4_1).f0)) := hcc10 0 _ rfl; have hx10_1 : w11.cell? ⟨go10, (x4_1 : Int).toNat * 3 + 1, none⟩ = some (.string ((ab x3_1 x4_1).f1)) := hcc10 1 _ rfl; have hx10_2 : w11.cell? ⟨go10, (x4_1 : Int).toNat * 3 + 2, none⟩ = some (ve10_2) := hcc10 2 _ rfl; have hf10_0 : w11.frozen? ⟨go10, (x4_1 : Int).toNat * 3, none⟩ = false := hfr10 0; have hf10_1 : w11.frozen? ⟨go10, (x4_1 : Int).toNat * 3 + 1, none⟩ = false := hfr10 1; have hf10_2 : w11.frozen? ⟨go10, (x4_1 : Int).toNat * 3 + 2, none⟩ = false := hfr10 2; clear hcl10 hcc10 hfr10 hM10; obtain ⟨p10, q10⟩ := tt_ p10 q10; have n_ := am_ (Kd.R_mono (ok' := (fun k_ => some k_ ≠ (v526 : Value).ownBlock)) HO_3.out (fun k_ hk => hk.2)); clear HO_3; have HO_3 := n_; clear n_; have HX12 := am_ (show Kd.R k76 76 w11 w.heap.size (fun _ => True) (.slice (some ⟨go10, 0, none⟩) x3_1.length co10) x3_1 from (by (with_reducible repeat (first | apply Kd.R_alloc | apply Kd.R_drewN | apply Kd.R_drew)); exact Kd.R_mono HO_3.out (fun _ hk => trivial))); obtain ⟨ce12, hcl12, hM12, hcc12, hfr12⟩ := Kd.R_elem HX12.out z76 (x4_1 : Int) (od_) (by have h_ : (x4_1 : Int) < ((x3_1.length : Int) : Int) := od_; first | exact h_ | (have e_ := (Kd.R_reads' HO_3.out).1; omega) | simpa using h_); obtain ⟨ve12_2, rfl, ge12_2⟩ := g8 hM12; have HP12 := Kd.R_seg HX12.out (x4_1 : Int) (od_) (by have h_ : (x4_1 : Int) < ((x3_1.length : Int) : Int) := od_; first | exact h_ | (have e_ := (Kd.R_reads' HO_3.out).1; omega) | simpa using h_) (seg := [.string t523, .string t524, v526]) (j := 0) hcl12 hcc12 (show 3 ≤ 3 from bh) (x' := (⟨t523, t524, t525⟩ : S76)) (ku _ _ _ (⟨t523, t524, t525⟩ : S76) (Kd.R_mono (Kd.R_apart' ((Kd.S_R HO527.out)) (Kd.R_typed HO_3.out) bh) (fun k_ hk => ⟨trivial, fun e_ => (hk.2) (by rw [e_]; rfl)⟩))) (fun _ hk => hk); have hx12_0 := hcc12 0 _ rfl; (try simp only [show (k76).sz = 3 from rfl, Nat.mul_one, Nat.add_zero] at hx12_0); have hf12_0 := hfr12 0; (try simp only [show (k76).sz = 3 from rfl, Nat.mul_one, Nat.add_zero] at hf12_0); have hx12_1 := hcc12 1 _ rfl; (try simp only [show (k76).sz = 3 from rfl, Nat.mul_one, Nat.add_zero] at hx12_1); have hf12_1 := hfr12 1; (try simp only [show (k76).sz = 3 from rfl, Nat.mul_one, Nat.add_zero] at hf12_1); have hx12_2 := hcc12 2 _ rfl; (try simp only [show (k76).sz = 3 from rfl, Nat.mul_one, Nat.add_zero] at hx12_2); have hf12_2 := hfr12 2; (try simp only [show (k76).sz = 3 from rfl, Nat.mul_one, Nat.add_zero] at hf12_2); clear hcl12 hcc12 hfr12 hM12) | ((with_reducible refine fc (t := 76) (p := 21) rfl ?_); refine eO (t := 76) (p := 21) (v := ?vo_w13) (w1 := (((w11.setCell ⟨go10, (x4_1 : Int).toNat * 3, none⟩ (.string t523)).setCell ⟨go10, (x4_1 : Int).toNat * 3 + 1, none⟩ (.string t524)).setCell ⟨go10, (x4_1 : Int).toNat * 3 + 2, none⟩ (v526))) ?hg ?ho ?hn ?hr ?_; (case ho => rfl); (case hg => rfl); (case hn => rfl); (case hr => first | (go_simp; done) | (go_simp; rfl) | (obtain ⟨_, _, e_⟩ := Kd.S_slice HO527.out; subst e_; first | (go_simp; done) | (go_simp; rfl))); intro w13 hw; have hg : w11.grownBy w13 (some go10) := (by rw [hw]; exact HP12.2); have hp_ : Kd.R k76 76 w13 w.heap.size (fun _ => True) (.slice (some ⟨go10, 0, none⟩) x3_1.length co10) y528 := (by rw [hw, Ny528.out]; exact HP12.1); clear HP12; replace HO_3 := am_ (hp_); replace HB := am_ ((by rw [hw]; exact bo (bo (bo (HB.out) GB10.out) GB10.out) GB10.out : Below w.heap.size w w13)); clear HO527 hg hw hp_))
     go_roundg k1
     case measure => have := HK1.out; omega
     case rel => exact ⟨(y528), (wrap64 (x4_1 + 1)), u1_, H', ⟨dk⟩, ⟨aR_ HO_3.out⟩, ⟨bw_ HB⟩⟩
    ·rw [if_neg c6] at H; have c6b0 := decide_eq_false c6; clear c6; obtain rfl := si_ H; go_wp2; go_ret
     exact ⟨_, u0_, aR_ HO_3.out, bw_ HB⟩
 ·rw [if_neg c2] at H; exact absurd H cw
def di.f (k : Nat) (l0_0 : List (d9)) (l0_1 : List (dX)) (l0_2 : List (dZ)) (a0_3 : Int) : Option ((List (S92)) × (List (S46)) × (List (S76)) × Int) := (bF.f k l0_0).bind fun t532 => ((b9.f k l0_1).bind fun t535 => ((bH.f k l0_2).bind fun t538 => (some (t532, t535, t538, a0_3))))
theorem di.calls (k : Nat) (A0_0 : Option Addr) (c0_0 : Nat) (l0_0 : List (d9)) (A0_1 : Option Addr) (c0_1 : Nat) (l0_1 : List (dX)) (A0_2 : Option Addr) (c0_2 : Nat) (l0_2 : List (dZ)) (a0_3 : Int) (r1 : List (S92)) (r2 : List (S46)) (r3 : List (S76)) (r4 : Int) (w : World) (hr0_0 : Kd.C ob w A0_0 l0_0.length l0_0) (hc0_0 : l0_0.length ≤ c0_0) (hr0_1 : Kd.C nQ w A0_1 l0_1.length l0_1) (hc0_1 : l0_1.length ≤ c0_1) (hr0_2 : Kd.C n7 w A0_2 l0_2.length l0_2) (hc0_2 : l0_2.length ≤ c0_2) (h : di.f k l0_0 l0_1 l0_2 a0_3 = some (r1, r2, r3, r4)) :
  Calls Tryz.prog 24 #[.agg #[.slice A0_0 l0_0.length c0_0, .slice A0_1 l0_1.length c0_1, .slice A0_2 l0_2.length c0_2, .int .i64 a0_3]] w fun e w' => ∃ v0_ v1_ v2_ : Value, e = .returned (.agg #[v0_, v1_, v2_, .int .i64 r4]) ∧ Kd.R k92 92 w' w.heap.size (fun _ => True) v0_ r1 ∧ Kd.S k46 46 w' w.heap.size (fun _ => True) v1_ r2 ∧ Kd.R k76 76 w' w.heap.size (fun _ => True) v2_ r3 ∧ Below w.heap.size w w' := by
 have hu56 := Tryz.underlying56; have hu27 := Tryz.underlying27; have HR0_0 := am_ hr0_0; have HC0_0 := am_ hc0_0; clear hr0_0 hc0_0; have HR0_1 := am_ hr0_1; have HC0_1 := am_ hc0_1; clear hr0_1 hc0_1; have HR0_2 := am_ hr0_2; have HC0_2 := am_ hc0_2; clear hr0_2 hc0_2; have HB := am_ (Below.refl w.heap.size w); have H := h; clear h; unfold di.f at H
 obtain ⟨t532, A2, H⟩ := bi_ H; obtain ⟨t535, A3, H⟩ := bi_ H; obtain ⟨t538, A4, H⟩ := bi_ H; simp only [Option.some.injEq, Prod.mk.injEq] at H; obtain ⟨rfl, rfl, rfl, rfl⟩ := H; go_enter Tryz.func24, Tryz.ntmps24
 go_wp2_with (first | ((with_reducible refine gt_ 1 ?_); refine bx_ 1 #[.slice A0_0 l0_0.length c0_0, .slice A0_1 l0_1.length c0_1, .slice A0_2 l0_2.length c0_2, .int .i64 a0_3] 56 ?_; intro gb529 hg w5 hbox hb; have BK529 := am_ (hbox); have GE529 := gw_ HB hg; replace HB := bs_ HB hb; clear hb hbox hg) | ((with_reducible refine gt_ 2 ?_); refine bx_ 2 #[.slice none 0 0, .slice none 0 0, .slice none 0 0, .int .i64 0] 27 ?_; intro gb530 hg w6 hbox hb; have BK530 := am_ (hbox); have GE530 := gw_ HB hg; replace HB := bs_ HB hb; have NB529_530 := nl_ BK529 hg; have NB530_529 := ng_ BK529 hg; replace BK529 := bb_ BK529 hb; clear hb hbox hg) | ((with_reducible refine gt_ 3 ?_); refine bx_ 3 #[.slice none 0 0, .slice none 0 0, .slice none 0 0, .int .i64 0] 27 ?_; intro gb531 hg w7 hbox hb; have BK531 := am_ (hbox); have GE531 := gw_ HB hg; replace HB := bs_ HB hb; have NB529_531 := nl_ BK529 hg; have NB531_529 := ng_ BK529 hg; replace BK529 := bb_ BK529 hb; have NB530_531 := nl_ BK530 hg; have NB531_530 := ng_ BK530 hg; replace BK530 := bb_ BK530 hb; clear hb hbox hg; have hnb8 := NB529_530.out; have hnc8 := NB530_529.out; have hnb9 := NB529_531.out; have hnc9 := NB531_529.out; obtain ⟨hcz10_0, hcz10_1, hcz10_2, hcz10_3, hfz10_0, hfz10_1, hfz10_2, hfz10_3⟩ := ch BK529.out) | ((with_reducible refine gt_ 6 ?_); refine gf_ 6 Tryz.func60 (bF.calls k _ _ l0_0 t532 _ (kc_ HR0_0 HB) HC0_0.out A2.out) ?_; rintro e w11 ⟨v533, rfl, ho0, hb⟩; refine ⟨_, rfl, ?_⟩; have HO534 := am_ (Kd.R_lower ho0 (ar (bw_ HB))); replace BK529 := bb_ BK529 hb; replace BK530 := bb_ BK530 hb; replace BK531 := bb_ BK531 hb; replace HB := bs_ HB hb; (try clear hb); (try clear ho0); obtain ⟨Ao12, co12, eo12⟩ := Kd.R_slice HO534.out; subst eo12; have hnb13 := NB531_530.out; have hnc13 := NB530_531.out; obtain ⟨hcz14_0, hcz14_1, hcz14_2, hcz14_3, hfz14_0, hfz14_1, hfz14_2, hfz14_3⟩ := ch BK531.out; obtain ⟨hcz15_0, hcz15_1, hcz15_2, hcz15_3, hfz15_0, hfz15_1, hfz15_2, hfz15_3⟩ := ch BK529.out) | ((with_reducible refine gt_ 10 ?_); refine gf_ 10 Tryz.func61 (b9.calls k _ _ l0_1 t535 _ (kc_ HR0_1 HB) HC0_1.out A3.out) ?_; rintro e w16 ⟨v536, rfl, ho0, hb⟩; refine ⟨_, rfl, ?_⟩; replace HO534 := am_ (Kd.R_below (aR_ (Kd.R_mono (Kd.R_far (p := ⟨gb531, 0, none⟩) (Kd.R_types HO534.out BK531.out bh) (fun _ hk => hk.2) (.slice Ao12 t532.length co12)) (fun _ h_ => h_.1))) hb); have HO537 := am_ (Kd.S_lower ho0 (ar (bw_ HB))); replace BK529 := bb_ BK529 hb; replace BK530 := bb_ BK530 hb; replace BK531 := am_ (a7 (g := gb531) (o := .cells #[.slice Ao12 t532.length co12, .slice none 0 0, .slice none 0 0, .int .i64 0] 27 (0, 0)) (pb_ BK531) hb); replace HB := bs_ HB hb; (try clear hb); (try clear ho0); obtain ⟨Ao17, co17, eo17⟩ := Kd.S_slice HO537.out; subst eo17; obtain ⟨hcz18_0, hcz18_1, hcz18_2, hcz18_3, hfz18_0, hfz18_1, hfz18_2, hfz18_3⟩ := ch BK531.out; obtain ⟨hcz19_0, hcz19_1, hcz19_2, hcz19_3, hfz19_0, hfz19_1, hfz19_2, hfz19_3⟩ := ch BK529.out) | ((with_reducible refine gt_ 14 ?_); refine gf_ 14 Tryz.func62 (bH.calls k _ _ l0_2 t538 _ (kc_ HR0_2 HB) HC0_2.out A4.out) ?_; rintro e w20 ⟨v539, rfl, ho0, hb⟩; refine ⟨_, rfl, ?_⟩; replace HO534 := am_ (Kd.R_below (aR_ (Kd.R_mono (Kd.R_far (p := ⟨gb531, 1, none⟩) (Kd.R_types HO534.out BK531.out bh) (fun _ hk => hk.2) (.slice Ao17 t535.length co17)) (fun _ h_ => h_.1))) hb); replace HO537 := am_ (Kd.S_below (aS_ (Kd.S_mono (Kd.S_far (p := ⟨gb531, 1, none⟩) (Kd.S_types HO537.out BK531.out bh) (fun _ hk => hk.2) (.slice Ao17 t535.length co17)) (fun _ h_ => h_.1))) hb); have HO540 := am_ (Kd.R_lower ho0 (ar (bw_ HB))); replace BK529 := bb_ BK529 hb; replace BK530 := bb_ BK530 hb; replace BK531 := am_ (a7 (g := gb531) (o := .cells #[.slice Ao12 t532.length co12, .slice Ao17 t535.length co17, .slice none 0 0, .int .i64 0] 27 (0, 0)) (pb_ BK531) hb); replace HB := bs_ HB hb; (try clear hb); (try clear ho0); obtain ⟨Ao21, co21, eo21⟩ := Kd.R_slice HO540.out; subst eo21; obtain ⟨hcz22_0, hcz22_1, hcz22_2, hcz22_3, hfz22_0, hfz22_1, hfz22_2, hfz22_3⟩ := ch BK531.out; obtain ⟨hcz23_0, hcz23_1, hcz23_2, hcz23_3, hfz23_0, hfz23_1, hfz23_2, hfz23_3⟩ := ch BK529.out; obtain ⟨hcz24_0, hcz24_1, hcz24_2, hcz24_3, hfz24_0, hfz24_1, hfz24_2, hfz24_3⟩ := ch BK530.out))
 refine bodyPost_ret (results_cell_row rfl _ _ gb530 27 #[.slice Ao12 t532.length co12, .slice Ao17 t535.length co17, .slice Ao21 t538.length co21, .int .i64 a0_3] (0, 0) _ rfl (pb_ BK530) Tryz.underlying27 rfl cn) rfl ?_; exact ⟨_, _, _, u0_, by (with_reducible repeat (first | apply Kd.R_alloc | apply Kd.R_drewN | apply Kd.R_drew)); exact Kd.R_mono (Kd.R_far (p := ⟨gb530, 3, none⟩) (Kd.R_far (p := ⟨gb530, 2, none⟩) (Kd.R_far (p := ⟨gb530, 1, none⟩) (Kd.R_far (p := ⟨gb530, 0, none⟩) (Kd.R_far (p := ⟨gb531, 3, none⟩) (Kd.R_far (p := ⟨gb531, 2, none⟩) (Kd.R_types (Kd.R_types HO534.out BK531.out bh) BK530.out bh) (fun _ hk => hk.1.2) (.slice Ao21 t538.length co21)) (fun _ hk => hk.1.2) (.int .i64 a0_3)) (fun _ hk => hk.2) (.slice Ao12 t532.length co12)) (fun _ hk => hk.2) (.slice Ao17 t535.length co17)) (fun _ hk => hk.2) (.slice Ao21 t538.length co21)) (fun _ hk => hk.2) (.int .i64 a0_3)) (fun _ hk => trivial), by (with_reducible repeat (first | apply Kd.S_alloc | apply Kd.S_drewN | apply Kd.S_drew)); exact Kd.S_mono (Kd.S_far (p := ⟨gb530, 3, none⟩) (Kd.S_far (p := ⟨gb530, 2, none⟩) (Kd.S_far (p := ⟨gb530, 1, none⟩) (Kd.S_far (p := ⟨gb530, 0, none⟩) (Kd.S_far (p := ⟨gb531, 3, none⟩) (Kd.S_far (p := ⟨gb531, 2, none⟩) (Kd.S_types (Kd.S_types HO537.out BK531.out bh) BK530.out bh) (fun _ hk => hk.1.2) (.slice Ao21 t538.length co21)) (fun _ hk => hk.1.2) (.int .i64 a0_3)) (fun _ hk => hk.2) (.slice Ao12 t532.length co12)) (fun _ hk => hk.2) (.slice Ao17 t535.length co17)) (fun _ hk => hk.2) (.slice Ao21 t538.length co21)) (fun _ hk => hk.2) (.int .i64 a0_3)) (fun _ hk => trivial), by (with_reducible repeat (first | apply Kd.R_alloc | apply Kd.R_drewN | apply Kd.R_drew)); exact Kd.R_mono (Kd.R_far (p := ⟨gb530, 3, none⟩) (Kd.R_far (p := ⟨gb530, 2, none⟩) (Kd.R_far (p := ⟨gb530, 1, none⟩) (Kd.R_far (p := ⟨gb530, 0, none⟩) (Kd.R_far (p := ⟨gb531, 3, none⟩) (Kd.R_far (p := ⟨gb531, 2, none⟩) (Kd.R_types (Kd.R_types HO540.out BK531.out bh) BK530.out bh) (fun _ hk => hk.1.2) (.slice Ao21 t538.length co21)) (fun _ hk => hk.1.2) (.int .i64 a0_3)) (fun _ hk => hk.2) (.slice Ao12 t532.length co12)) (fun _ hk => hk.2) (.slice Ao17 t535.length co17)) (fun _ hk => hk.2) (.slice Ao21 t538.length co21)) (fun _ hk => hk.2) (.int .i64 a0_3)) (fun _ hk => trivial), bw_ HB⟩
def dL.f (a0_0 : ByteArray) (a0_1 : Int) (a0_2 : Int) (a1_0 : ByteArray) (a1_1 : Int) (a1_2 : Int) : Option (Bool) := if a0_0.toList = a1_0.toList then (if a0_1 = a1_1 then (if a0_2 = a1_2 then (some true) else (some false)) else (some false)) else (some false)
theorem dL.calls (a0_0 : ByteArray) (a0_1 : Int) (a0_2 : Int) (a1_0 : ByteArray) (a1_1 : Int) (a1_2 : Int) (r : Bool) (w : World) (h : dL.f a0_0 a0_1 a0_2 a1_0 a1_1 a1_2 = some r) :
  Calls Tryz.prog 121 #[.agg #[.string a0_0, .int .i64 a0_1, .int .i64 a0_2], .agg #[.string a1_0, .int .i64 a1_1, .int .i64 a1_2]] w fun e w' => e = .returned (.bool r) ∧ Below w.heap.size w w' := by
 have hu92 := Tryz.underlying92; have HB := am_ (Below.refl w.heap.size w); have H := h; clear h; unfold dL.f at H
 by_cases c3 : a0_0.toList = a1_0.toList
 ·rw [if_pos c3] at H; have c3b0 := cU c3; have c3b1 := cS c3; clear c3; by_cases c4 : a0_1 = a1_1
  ·rw [if_pos c4] at H; have c4b0 := cU c4; have c4b1 := cS c4; clear c4; by_cases c5 : a0_2 = a1_2
   ·rw [if_pos c5] at H; have c5b0 := cU c5; have c5b1 := cS c5; clear c5; obtain rfl := si_ H; go_enter Tryz.func121, Tryz.ntmps121
    go_wp2_with (first | ((with_reducible refine gt_ 2 ?_); refine bx_ 2 #[.string a0_0, .int .i64 a0_1, .int .i64 a0_2] 92 ?_; intro gb541 hg w6 hbox hb; have BK541 := am_ (hbox); have GE541 := gw_ HB hg; replace HB := bs_ HB hb; clear hb hbox hg) | ((with_reducible refine gt_ 3 ?_); refine bx_ 3 #[.string a1_0, .int .i64 a1_1, .int .i64 a1_2] 92 ?_; intro gb542 hg w7 hbox hb; have BK542 := am_ (hbox); have GE542 := gw_ HB hg; replace HB := bs_ HB hb; have NB541_542 := nl_ BK541 hg; have NB542_541 := ng_ BK541 hg; replace BK541 := bb_ BK541 hb; clear hb hbox hg; have hnb8 := NB541_542.out; have hnc8 := NB542_541.out; obtain ⟨hcz9_0, hcz9_1, hcz9_2, hfz9_0, hfz9_1, hfz9_2⟩ := bO BK541.out; obtain ⟨hcz10_0, hcz10_1, hcz10_2, hfz10_0, hfz10_1, hfz10_2⟩ := bO BK542.out))
    go_ret
    exact ⟨u0_, bw_ HB⟩
   ·rw [if_neg c5] at H; have c5b0 := cT c5; have c5b1 := cV c5; obtain rfl := si_ H; go_enter Tryz.func121, Tryz.ntmps121
    go_wp2_with (first | ((with_reducible refine gt_ 2 ?_); refine bx_ 2 #[.string a0_0, .int .i64 a0_1, .int .i64 a0_2] 92 ?_; intro gb541 hg w11 hbox hb; have BK541 := am_ (hbox); have GE541 := gw_ HB hg; replace HB := bs_ HB hb; clear hb hbox hg) | ((with_reducible refine gt_ 3 ?_); refine bx_ 3 #[.string a1_0, .int .i64 a1_1, .int .i64 a1_2] 92 ?_; intro gb542 hg w12 hbox hb; have BK542 := am_ (hbox); have GE542 := gw_ HB hg; replace HB := bs_ HB hb; have NB541_542 := nl_ BK541 hg; have NB542_541 := ng_ BK541 hg; replace BK541 := bb_ BK541 hb; clear hb hbox hg; have hnb13 := NB541_542.out; have hnc13 := NB542_541.out; obtain ⟨hcz14_0, hcz14_1, hcz14_2, hfz14_0, hfz14_1, hfz14_2⟩ := bO BK541.out; obtain ⟨hcz15_0, hcz15_1, hcz15_2, hfz15_0, hfz15_1, hfz15_2⟩ := bO BK542.out))
    go_ret
    exact ⟨u0_, bw_ HB⟩
  ·rw [if_neg c4] at H; have c4b0 := cT c4; have c4b1 := cV c4; obtain rfl := si_ H; go_enter Tryz.func121, Tryz.ntmps121
   go_wp2_with (first | ((with_reducible refine gt_ 2 ?_); refine bx_ 2 #[.string a0_0, .int .i64 a0_1, .int .i64 a0_2] 92 ?_; intro gb541 hg w16 hbox hb; have BK541 := am_ (hbox); have GE541 := gw_ HB hg; replace HB := bs_ HB hb; clear hb hbox hg) | ((with_reducible refine gt_ 3 ?_); refine bx_ 3 #[.string a1_0, .int .i64 a1_1, .int .i64 a1_2] 92 ?_; intro gb542 hg w17 hbox hb; have BK542 := am_ (hbox); have GE542 := gw_ HB hg; replace HB := bs_ HB hb; have NB541_542 := nl_ BK541 hg; have NB542_541 := ng_ BK541 hg; replace BK541 := bb_ BK541 hb; clear hb hbox hg; have hnb18 := NB541_542.out; have hnc18 := NB542_541.out; obtain ⟨hcz19_0, hcz19_1, hcz19_2, hfz19_0, hfz19_1, hfz19_2⟩ := bO BK541.out; obtain ⟨hcz20_0, hcz20_1, hcz20_2, hfz20_0, hfz20_1, hfz20_2⟩ := bO BK542.out))
   go_ret
   exact ⟨u0_, bw_ HB⟩
 ·rw [if_neg c3] at H; have c3b0 := cT c3; have c3b1 := cV c3; obtain rfl := si_ H; go_enter Tryz.func121, Tryz.ntmps121
  go_wp2_with (first | ((with_reducible refine gt_ 2 ?_); refine bx_ 2 #[.string a0_0, .int .i64 a0_1, .int .i64 a0_2] 92 ?_; intro gb541 hg w21 hbox hb; have BK541 := am_ (hbox); have GE541 := gw_ HB hg; replace HB := bs_ HB hb; clear hb hbox hg) | ((with_reducible refine gt_ 3 ?_); refine bx_ 3 #[.string a1_0, .int .i64 a1_1, .int .i64 a1_2] 92 ?_; intro gb542 hg w22 hbox hb; have BK542 := am_ (hbox); have GE542 := gw_ HB hg; replace HB := bs_ HB hb; have NB541_542 := nl_ BK541 hg; have NB542_541 := ng_ BK541 hg; replace BK541 := bb_ BK541 hb; clear hb hbox hg; have hnb23 := NB541_542.out; have hnc23 := NB542_541.out; obtain ⟨hcz24_0, hcz24_1, hcz24_2, hfz24_0, hfz24_1, hfz24_2⟩ := bO BK541.out; obtain ⟨hcz25_0, hcz25_1, hcz25_2, hfz25_0, hfz25_1, hfz25_2⟩ := bO BK542.out))
  go_ret
  exact ⟨u0_, bw_ HB⟩
def aC.l0 : Nat → List (S92) → List (S92) → Int → Option (Bool)
 | 0, _, _, _ => none
 | k + 1, x0, x1, x5 => if x5 < (x0.length : Int) then (if 0 ≤ x5 then (if x5 < (x1.length : Int) then ((dL.f ((ap x0 x5).f0) ((ap x0 x5).f1) ((ap x0 x5).f2) ((ap x1 x5).f0) ((ap x1 x5).f1) ((ap x1 x5).f2)).bind fun t545 => (if t545 = true then (aC.l0 k x0 x1 (wrap64 (x5 + 1))) else (some false))) else (none)) else (none)) else (some true)
def aC.f (k : Nat) (l0 : List (S92)) (l1 : List (S92)) : Option (Bool) := if (l0.length : Int) = (l1.length : Int) then (aC.l0 k l0 l1 0) else (some false)
def aC.T6 : Bool × List (List Nat × List Nat) := (true, [([], []), ([], []), ([0, 1], [0, 1]), ([2], [2]), ([], []), ([], []), ([4, 5], [4, 5]), ([6], [6]), ([3, 7], [3, 7]), ([8], [8])])
def aC.B6 : List Nat := [0, 0, 3, 7, 0, 0, 48, 112, 255, 511]
theorem aC.tab6 : dv .any (fG Tryz.f70 6) = aC.T6 := by kernel_rfl
theorem aC.bits6 : dg aC.T6.2 aC.B6 = true := by kernel_rfl
theorem aC.calls (k : Nat) (A0 : Option Addr) (c0 : Nat) (l0 : List (S92)) (A1 : Option Addr) (c1 : Nat) (l1 : List (S92)) (r : Bool) (w : World) (hr0 : Kd.C k92 w A0 l0.length l0) (hc0 : l0.length ≤ c0) (hr1 : Kd.C k92 w A1 l1.length l1) (hc1 : l1.length ≤ c1) (h : aC.f k l0 l1 = some r) :
  Calls Tryz.prog 70 #[.slice A0 l0.length c0, .slice A1 l1.length c1] w fun e w' => e = .returned (.bool r) ∧ Below w.heap.size w w' := by
 have hu92 := Tryz.underlying92; have HR0 := am_ hr0; have HC0 := am_ hc0; clear hr0 hc0; have HR1 := am_ hr1; have HC1 := am_ hc1; clear hr1 hc1; have HB := am_ (Below.refl w.heap.size w); have H := h; clear h; unfold aC.f at H
 by_cases c3 : (l0.length : Int) = (l1.length : Int)
 ·rw [if_pos c3] at H; have c3b0 := cU c3; have c3b1 := cS c3; have c3b2 : (l0.length == l1.length) = true := by first | simpa using c3 | (simp at c3 ⊢; omega)
  clear c3; have H' := am_ H; clear H; go_enter Tryz.func70, Tryz.ntmps70
  go_wp2; go_loopg [5] k (fun kq v5 w' => ∃ (x5_1 : Int), v5 = .int .i64 x5_1 ∧ aa (aC.l0 kq l0 l1 x5_1 = some r) ∧ aa (kq ≤ k) ∧ aa (Below w.heap.size w w'))
  case atStart => exact ⟨(0), u1_, H', ⟨Nat.le_refl _⟩, ⟨bw_ HB⟩⟩
  case round =>
   clear H'; try clear c1
   try clear c3
   try clear c3b0
   try clear c3b1
   try clear c3b2
   obtain ⟨x5_1, rfl, HA, HK1, HB⟩ := hrel; cases gk with
   | zero => exact absurd HA.out (by simp [aC.l0])
   | succ k1 =>
    have H := HA.out; clear HA; simp only [aC.l0] at H; by_cases c4 : x5_1 < (l0.length : Int)
    ·rw [if_pos c4] at H; have c4b0 := decide_eq_true c4; clear c4; obtain ⟨c5b0, H⟩ := gd_ H; obtain ⟨c6b0, H⟩ := gd_ H; obtain ⟨t545, A7, H⟩ := bi_ H; have HC_ := am_ H; clear H; try go_wp2
     replace HB := am_ (aT HB.out); obtain ⟨ad543, e543, hx543_0, hx543_1, hx543_2⟩ := gE HR0.out x5_1 od_ od_; have hw543_2 := hx543_2; have hw543_1 := hx543_1; have hw543_0 := hx543_0; cases e543; replace hx543_0 := cb_ HB hx543_0; replace hx543_1 := cb_ HB hx543_1; replace hx543_2 := cb_ HB hx543_2; obtain ⟨p543, q543⟩ := pt_ x5_1 l0.length; obtain ⟨ad544, e544, hx544_0, hx544_1, hx544_2⟩ := gE HR1.out x5_1 od_ od_; have hw544_2 := hx544_2; have hw544_1 := hx544_1; have hw544_0 := hx544_0; cases e544; replace hx544_0 := cb_ HB hx544_0; replace hx544_1 := cb_ HB hx544_1; replace hx544_2 := cb_ HB hx544_2; obtain ⟨p544, q544⟩ := pt_ x5_1 l1.length; refine de (n := 10) (S := fun w' => w'.cell? (ad543.add ((x5_1).toNat * 3)) = some (.string ((ap l0 x5_1).f0)) ∧ w'.cell? ⟨(ad543.add ((x5_1).toNat * 3)).block, (ad543.add ((x5_1).toNat * 3)).off + 1, none⟩ = some (.int .i64 ((ap l0 x5_1).f1)) ∧ w'.cell? ⟨(ad543.add ((x5_1).toNat * 3)).block, (ad543.add ((x5_1).toNat * 3)).off + 2, none⟩ = some (.int .i64 ((ap l0 x5_1).f2)) ∧ w'.cell? (ad544.add ((x5_1).toNat * 3)) = some (.string ((ap l1 x5_1).f0)) ∧ w'.cell? ⟨(ad544.add ((x5_1).toNat * 3)).block, (ad544.add ((x5_1).toNat * 3)).off + 1, none⟩ = some (.int .i64 ((ap l1 x5_1).f1)) ∧ w'.cell? ⟨(ad544.add ((x5_1).toNat * 3)).block, (ad544.add ((x5_1).toNat * 3)).off + 2, none⟩ = some (.int .i64 ((ap l1 x5_1).f2))) (ds := []) (bm_ 10 0) cn rfl rfl ⟨(cc_ HB hw543_0), (cc_ HB hw543_1), (cc_ HB hw543_2), (cc_ HB hw544_0), (cc_ HB hw544_1), (cc_ HB hw544_2)⟩ (fun hHeld => ?_); refine bM aC.tab6 aC.bits6 (fun HT_ HW_ => ?_); generalize wr.drew = w11 at HB hx543_0 hx543_1 hx543_2 hx544_0 hx544_1 hx544_2 hHeld ⊢; refine pv_ 0 17 ?_; refine pv_ 1 18 ?_; refine pv_ 2 19 ?_; refine pv_ 4 21 ?_; refine pv_ 5 22 ?_; refine pv_ 6 23 ?_; refine tv_ 3 20 ?_; refine tv_ 7 24 ?_; refine ov_ 8 25 (fun K hK => ?_); refine oB_ Tryz.func121 (dL.calls ((ap l0 x5_1).f0) ((ap l0 x5_1).f1) ((ap l0 x5_1).f2) ((ap l1 x5_1).f0) ((ap l1 x5_1).f1) ((ap l1 x5_1).f2) t545 _ A7.out) ?_; intro w12 hb; replace HB := bs_ HB hb; (try clear hb)
     refine hK.out _ _ ⟨(cc_ HB hw543_0), (cc_ HB hw543_1), (cc_ HB hw543_2), (cc_ HB hw544_0), (cc_ HB hw544_1), (cc_ HB hw544_2)⟩ (fun hHeld => ?_); clear hK K; refine nm_ ?_; refine pv_ 9 26 ?_; refine dn_ HT_ ?_; have H := HC_.out; clear HC_; cases t545
     ·replace H := hf_ H; obtain rfl := si_ H; try go_wp2
      go_ret
      exact ⟨u0_, bw_ HB⟩
     ·replace H := ht_ H; have H' := am_ H; clear H; try go_wp2
      go_roundg k1
      case measure => have := HK1.out; omega
      case rel => exact ⟨(wrap64 (x5_1 + 1)), u1_, H', ⟨dk⟩, ⟨bw_ HB⟩⟩
    ·rw [if_neg c4] at H; have c4b0 := decide_eq_false c4; clear c4; obtain rfl := si_ H; go_wp2; go_ret
     exact ⟨u0_, bw_ HB⟩
 ·rw [if_neg c3] at H; have c3b0 := cT c3; have c3b1 := cV c3; have c3b2 : (l0.length == l1.length) = false := by first | simpa using c3 | (simp at c3 ⊢; omega)
  obtain rfl := si_ H; go_enter Tryz.func70, Tryz.ntmps70
  go_wp2; go_ret
  exact ⟨u0_, bw_ HB⟩
def ei.f (a0_0 : ByteArray) (a0_1 : ByteArray) (a1_0 : ByteArray) (a1_1 : ByteArray) : Option (Bool) := if a0_0.toList = a1_0.toList then (if a0_1.toList = a1_1.toList then (some true) else (some false)) else (some false)
theorem ei.calls (a0_0 : ByteArray) (a0_1 : ByteArray) (a1_0 : ByteArray) (a1_1 : ByteArray) (r : Bool) (w : World) (h : ei.f a0_0 a0_1 a1_0 a1_1 = some r) :
  Calls Tryz.prog 124 #[.agg #[.string a0_0, .string a0_1], .agg #[.string a1_0, .string a1_1]] w fun e w' => e = .returned (.bool r) ∧ Below w.heap.size w w' := by
 have hu86 := Tryz.underlying86; have HB := am_ (Below.refl w.heap.size w); have H := h; clear h; unfold ei.f at H
 by_cases c3 : a0_0.toList = a1_0.toList
 ·rw [if_pos c3] at H; have c3b0 := cU c3; have c3b1 := cS c3; clear c3; by_cases c4 : a0_1.toList = a1_1.toList
  ·rw [if_pos c4] at H; have c4b0 := cU c4; have c4b1 := cS c4; clear c4; obtain rfl := si_ H; go_enter Tryz.func124, Tryz.ntmps124
   go_wp2_with (first | ((with_reducible refine gt_ 2 ?_); refine bx_ 2 #[.string a0_0, .string a0_1] 86 ?_; intro gb546 hg w5 hbox hb; have BK546 := am_ (hbox); have GE546 := gw_ HB hg; replace HB := bs_ HB hb; clear hb hbox hg) | ((with_reducible refine gt_ 3 ?_); refine bx_ 3 #[.string a1_0, .string a1_1] 86 ?_; intro gb547 hg w6 hbox hb; have BK547 := am_ (hbox); have GE547 := gw_ HB hg; replace HB := bs_ HB hb; have NB546_547 := nl_ BK546 hg; have NB547_546 := ng_ BK546 hg; replace BK546 := bb_ BK546 hb; clear hb hbox hg; have hnb7 := NB546_547.out; have hnc7 := NB547_546.out; obtain ⟨hcz8_0, hcz8_1, hfz8_0, hfz8_1⟩ := bI BK546.out; obtain ⟨hcz9_0, hcz9_1, hfz9_0, hfz9_1⟩ := bI BK547.out))
   go_ret
   exact ⟨u0_, bw_ HB⟩
  ·rw [if_neg c4] at H; have c4b0 := cT c4; have c4b1 := cV c4; obtain rfl := si_ H; go_enter Tryz.func124, Tryz.ntmps124
   go_wp2_with (first | ((with_reducible refine gt_ 2 ?_); refine bx_ 2 #[.string a0_0, .string a0_1] 86 ?_; intro gb546 hg w10 hbox hb; have BK546 := am_ (hbox); have GE546 := gw_ HB hg; replace HB := bs_ HB hb; clear hb hbox hg) | ((with_reducible refine gt_ 3 ?_); refine bx_ 3 #[.string a1_0, .string a1_1] 86 ?_; intro gb547 hg w11 hbox hb; have BK547 := am_ (hbox); have GE547 := gw_ HB hg; replace HB := bs_ HB hb; have NB546_547 := nl_ BK546 hg; have NB547_546 := ng_ BK546 hg; replace BK546 := bb_ BK546 hb; clear hb hbox hg; have hnb12 := NB546_547.out; have hnc12 := NB547_546.out; obtain ⟨hcz13_0, hcz13_1, hfz13_0, hfz13_1⟩ := bI BK546.out; obtain ⟨hcz14_0, hcz14_1, hfz14_0, hfz14_1⟩ := bI BK547.out))
   go_ret
   exact ⟨u0_, bw_ HB⟩
 ·rw [if_neg c3] at H; have c3b0 := cT c3; have c3b1 := cV c3; obtain rfl := si_ H; go_enter Tryz.func124, Tryz.ntmps124
  go_wp2_with (first | ((with_reducible refine gt_ 2 ?_); refine bx_ 2 #[.string a0_0, .string a0_1] 86 ?_; intro gb546 hg w15 hbox hb; have BK546 := am_ (hbox); have GE546 := gw_ HB hg; replace HB := bs_ HB hb; clear hb hbox hg) | ((with_reducible refine gt_ 3 ?_); refine bx_ 3 #[.string a1_0, .string a1_1] 86 ?_; intro gb547 hg w16 hbox hb; have BK547 := am_ (hbox); have GE547 := gw_ HB hg; replace HB := bs_ HB hb; have NB546_547 := nl_ BK546 hg; have NB547_546 := ng_ BK546 hg; replace BK546 := bb_ BK546 hb; clear hb hbox hg; have hnb17 := NB546_547.out; have hnc17 := NB547_546.out; obtain ⟨hcz18_0, hcz18_1, hfz18_0, hfz18_1⟩ := bI BK546.out; obtain ⟨hcz19_0, hcz19_1, hfz19_0, hfz19_1⟩ := bI BK547.out))
  go_ret
  exact ⟨u0_, bw_ HB⟩
def aY.l0 : Nat → List (S86) → List (S86) → Int → Option (Bool)
 | 0, _, _, _ => none
 | k + 1, x0, x1, x5 => if x5 < (x0.length : Int) then (if 0 ≤ x5 then (if x5 < (x1.length : Int) then ((ei.f ((ai x0 x5).f0) ((ai x0 x5).f1) ((ai x1 x5).f0) ((ai x1 x5).f1)).bind fun t550 => (if t550 = true then (aY.l0 k x0 x1 (wrap64 (x5 + 1))) else (some false))) else (none)) else (none)) else (some true)
def aY.f (k : Nat) (l0 : List (S86)) (l1 : List (S86)) : Option (Bool) := if (l0.length : Int) = (l1.length : Int) then (aY.l0 k l0 l1 0) else (some false)
def aY.T6 : Bool × List (List Nat × List Nat) := (true, [([], []), ([], []), ([0, 1], [0, 1]), ([2], [2]), ([], []), ([], []), ([4, 5], [4, 5]), ([6], [6]), ([3, 7], [3, 7]), ([8], [8])])
def aY.B6 : List Nat := [0, 0, 3, 7, 0, 0, 48, 112, 255, 511]
theorem aY.tab6 : dv .any (fG Tryz.f74 6) = aY.T6 := by kernel_rfl
theorem aY.bits6 : dg aY.T6.2 aY.B6 = true := by kernel_rfl
theorem aY.calls (k : Nat) (A0 : Option Addr) (c0 : Nat) (l0 : List (S86)) (A1 : Option Addr) (c1 : Nat) (l1 : List (S86)) (r : Bool) (w : World) (hr0 : Kd.C k86 w A0 l0.length l0) (hc0 : l0.length ≤ c0) (hr1 : Kd.C k86 w A1 l1.length l1) (hc1 : l1.length ≤ c1) (h : aY.f k l0 l1 = some r) :
  Calls Tryz.prog 74 #[.slice A0 l0.length c0, .slice A1 l1.length c1] w fun e w' => e = .returned (.bool r) ∧ Below w.heap.size w w' := by
 have hu86 := Tryz.underlying86; have HR0 := am_ hr0; have HC0 := am_ hc0; clear hr0 hc0; have HR1 := am_ hr1; have HC1 := am_ hc1; clear hr1 hc1; have HB := am_ (Below.refl w.heap.size w); have H := h; clear h; unfold aY.f at H
 by_cases c3 : (l0.length : Int) = (l1.length : Int)
 ·rw [if_pos c3] at H; have c3b0 := cU c3; have c3b1 := cS c3; have c3b2 : (l0.length == l1.length) = true := by first | simpa using c3 | (simp at c3 ⊢; omega)
  clear c3; have H' := am_ H; clear H; go_enter Tryz.func74, Tryz.ntmps74
  go_wp2; go_loopg [5] k (fun kq v5 w' => ∃ (x5_1 : Int), v5 = .int .i64 x5_1 ∧ aa (aY.l0 kq l0 l1 x5_1 = some r) ∧ aa (kq ≤ k) ∧ aa (Below w.heap.size w w'))
  case atStart => exact ⟨(0), u1_, H', ⟨Nat.le_refl _⟩, ⟨bw_ HB⟩⟩
  case round =>
   clear H'; try clear c1
   try clear c3
   try clear c3b0
   try clear c3b1
   try clear c3b2
   obtain ⟨x5_1, rfl, HA, HK1, HB⟩ := hrel; cases gk with
   | zero => exact absurd HA.out (by simp [aY.l0])
   | succ k1 =>
    have H := HA.out; clear HA; simp only [aY.l0] at H; by_cases c4 : x5_1 < (l0.length : Int)
    ·rw [if_pos c4] at H; have c4b0 := decide_eq_true c4; clear c4; obtain ⟨c5b0, H⟩ := gd_ H; obtain ⟨c6b0, H⟩ := gd_ H; obtain ⟨t550, A7, H⟩ := bi_ H; have HC_ := am_ H; clear H; try go_wp2
     replace HB := am_ (aT HB.out); obtain ⟨ad548, e548, hx548_0, hx548_1⟩ := dp HR0.out x5_1 od_ od_; have hw548_1 := hx548_1; have hw548_0 := hx548_0; cases e548; replace hx548_0 := cb_ HB hx548_0; replace hx548_1 := cb_ HB hx548_1; obtain ⟨p548, q548⟩ := pt_ x5_1 l0.length; obtain ⟨ad549, e549, hx549_0, hx549_1⟩ := dp HR1.out x5_1 od_ od_; have hw549_1 := hx549_1; have hw549_0 := hx549_0; cases e549; replace hx549_0 := cb_ HB hx549_0; replace hx549_1 := cb_ HB hx549_1; obtain ⟨p549, q549⟩ := pt_ x5_1 l1.length; refine de (n := 10) (S := fun w' => w'.cell? (ad548.add ((x5_1).toNat * 2)) = some (.string ((ai l0 x5_1).f0)) ∧ w'.cell? ⟨(ad548.add ((x5_1).toNat * 2)).block, (ad548.add ((x5_1).toNat * 2)).off + 1, none⟩ = some (.string ((ai l0 x5_1).f1)) ∧ w'.cell? (ad549.add ((x5_1).toNat * 2)) = some (.string ((ai l1 x5_1).f0)) ∧ w'.cell? ⟨(ad549.add ((x5_1).toNat * 2)).block, (ad549.add ((x5_1).toNat * 2)).off + 1, none⟩ = some (.string ((ai l1 x5_1).f1))) (ds := []) (bm_ 10 0) cn rfl rfl ⟨(cc_ HB hw548_0), (cc_ HB hw548_1), (cc_ HB hw549_0), (cc_ HB hw549_1)⟩ (fun hHeld => ?_); refine bM aY.tab6 aY.bits6 (fun HT_ HW_ => ?_); generalize wr.drew = w11 at HB hx548_0 hx548_1 hx549_0 hx549_1 hHeld ⊢; refine pv_ 0 17 ?_; refine pv_ 1 18 ?_; refine pv_ 2 19 ?_; refine pv_ 4 21 ?_; refine pv_ 5 22 ?_; refine pv_ 6 23 ?_; refine tv_ 3 20 ?_; refine tv_ 7 24 ?_; refine ov_ 8 25 (fun K hK => ?_); refine oB_ Tryz.func124 (ei.calls ((ai l0 x5_1).f0) ((ai l0 x5_1).f1) ((ai l1 x5_1).f0) ((ai l1 x5_1).f1) t550 _ A7.out) ?_; intro w12 hb; replace HB := bs_ HB hb; (try clear hb)
     refine hK.out _ _ ⟨(cc_ HB hw548_0), (cc_ HB hw548_1), (cc_ HB hw549_0), (cc_ HB hw549_1)⟩ (fun hHeld => ?_); clear hK K; refine nm_ ?_; refine pv_ 9 26 ?_; refine dn_ HT_ ?_; have H := HC_.out; clear HC_; cases t550
     ·replace H := hf_ H; obtain rfl := si_ H; try go_wp2
      go_ret
      exact ⟨u0_, bw_ HB⟩
     ·replace H := ht_ H; have H' := am_ H; clear H; try go_wp2
      go_roundg k1
      case measure => have := HK1.out; omega
      case rel => exact ⟨(wrap64 (x5_1 + 1)), u1_, H', ⟨dk⟩, ⟨bw_ HB⟩⟩
    ·rw [if_neg c4] at H; have c4b0 := decide_eq_false c4; clear c4; obtain rfl := si_ H; go_wp2; go_ret
     exact ⟨u0_, bw_ HB⟩
 ·rw [if_neg c3] at H; have c3b0 := cT c3; have c3b1 := cV c3; have c3b2 : (l0.length == l1.length) = false := by first | simpa using c3 | (simp at c3 ⊢; omega)
  obtain rfl := si_ H; go_enter Tryz.func74, Tryz.ntmps74
  go_wp2; go_ret
  exact ⟨u0_, bw_ HB⟩
def dM.f (k : Nat) (a0_0 : ByteArray) (l0_1 : List (S86)) (a1_0 : ByteArray) (l1_1 : List (S86)) : Option (Bool) := if a0_0.toList = a1_0.toList then ((aY.f k l0_1 l1_1).bind fun t553 => (if t553 = true then (some true) else (some false))) else (some false)
theorem dM.calls (k : Nat) (a0_0 : ByteArray) (A0_1 : Option Addr) (c0_1 : Nat) (l0_1 : List (S86)) (a1_0 : ByteArray) (A1_1 : Option Addr) (c1_1 : Nat) (l1_1 : List (S86)) (r : Bool) (w : World) (hr0_1 : Kd.C k86 w A0_1 l0_1.length l0_1) (hc0_1 : l0_1.length ≤ c0_1) (hr1_1 : Kd.C k86 w A1_1 l1_1.length l1_1) (hc1_1 : l1_1.length ≤ c1_1) (h : dM.f k a0_0 l0_1 a1_0 l1_1 = some r) :
  Calls Tryz.prog 29 #[.agg #[.string a0_0, .slice A0_1 l0_1.length c0_1], .agg #[.string a1_0, .slice A1_1 l1_1.length c1_1]] w fun e w' => e = .returned (.bool r) ∧ Below w.heap.size w w' := by
 have hu44 := Tryz.underlying44; have HR0_1 := am_ hr0_1; have HC0_1 := am_ hc0_1; clear hr0_1 hc0_1; have HR1_1 := am_ hr1_1; have HC1_1 := am_ hc1_1; clear hr1_1 hc1_1; have HB := am_ (Below.refl w.heap.size w); have H := h; clear h; unfold dM.f at H
 by_cases c3 : a0_0.toList = a1_0.toList
 ·rw [if_pos c3] at H; have c3b0 := cU c3; have c3b1 := cS c3; clear c3; obtain ⟨t553, A4, H⟩ := bi_ H; cases t553
  ·replace H := hf_ H; obtain rfl := si_ H; go_enter Tryz.func29, Tryz.ntmps29
   go_wp2_with (first | ((with_reducible refine gt_ 2 ?_); refine bx_ 2 #[.string a0_0, .slice A0_1 l0_1.length c0_1] 44 ?_; intro gb551 hg w12 hbox hb; have BK551 := am_ (hbox); have GE551 := gw_ HB hg; replace HB := bs_ HB hb; clear hb hbox hg) | ((with_reducible refine gt_ 3 ?_); refine bx_ 3 #[.string a1_0, .slice A1_1 l1_1.length c1_1] 44 ?_; intro gb552 hg w13 hbox hb; have BK552 := am_ (hbox); have GE552 := gw_ HB hg; replace HB := bs_ HB hb; have NB551_552 := nl_ BK551 hg; have NB552_551 := ng_ BK551 hg; replace BK551 := bb_ BK551 hb; clear hb hbox hg; have hnb14 := NB551_552.out; have hnc14 := NB552_551.out; obtain ⟨hcz15_0, hcz15_1, hfz15_0, hfz15_1⟩ := bI BK551.out; obtain ⟨hcz16_0, hcz16_1, hfz16_0, hfz16_1⟩ := bI BK552.out) | ((with_reducible refine gt_ 14 ?_); refine gB_ 14 Tryz.func74 (aY.calls k _ _ l0_1 _ _ l1_1 false _ (kc_ HR0_1 HB) HC0_1.out (kc_ HR1_1 HB) HC1_1.out A4.out) ?_; intro w17 hb; replace HB := bs_ HB hb; (try clear hb)))
   go_ret
   exact ⟨u0_, bw_ HB⟩
  ·replace H := ht_ H; obtain rfl := si_ H; go_enter Tryz.func29, Tryz.ntmps29
   go_wp2_with (first | ((with_reducible refine gt_ 2 ?_); refine bx_ 2 #[.string a0_0, .slice A0_1 l0_1.length c0_1] 44 ?_; intro gb551 hg w6 hbox hb; have BK551 := am_ (hbox); have GE551 := gw_ HB hg; replace HB := bs_ HB hb; clear hb hbox hg) | ((with_reducible refine gt_ 3 ?_); refine bx_ 3 #[.string a1_0, .slice A1_1 l1_1.length c1_1] 44 ?_; intro gb552 hg w7 hbox hb; have BK552 := am_ (hbox); have GE552 := gw_ HB hg; replace HB := bs_ HB hb; have NB551_552 := nl_ BK551 hg; have NB552_551 := ng_ BK551 hg; replace BK551 := bb_ BK551 hb; clear hb hbox hg; have hnb8 := NB551_552.out; have hnc8 := NB552_551.out; obtain ⟨hcz9_0, hcz9_1, hfz9_0, hfz9_1⟩ := bI BK551.out; obtain ⟨hcz10_0, hcz10_1, hfz10_0, hfz10_1⟩ := bI BK552.out) | ((with_reducible refine gt_ 14 ?_); refine gB_ 14 Tryz.func74 (aY.calls k _ _ l0_1 _ _ l1_1 true _ (kc_ HR0_1 HB) HC0_1.out (kc_ HR1_1 HB) HC1_1.out A4.out) ?_; intro w11 hb; replace HB := bs_ HB hb; (try clear hb)))
   go_ret
   exact ⟨u0_, bw_ HB⟩
 ·rw [if_neg c3] at H; have c3b0 := cT c3; have c3b1 := cV c3; obtain rfl := si_ H; go_enter Tryz.func29, Tryz.ntmps29
  go_wp2_with (first | ((with_reducible refine gt_ 2 ?_); refine bx_ 2 #[.string a0_0, .slice A0_1 l0_1.length c0_1] 44 ?_; intro gb551 hg w18 hbox hb; have BK551 := am_ (hbox); have GE551 := gw_ HB hg; replace HB := bs_ HB hb; clear hb hbox hg) | ((with_reducible refine gt_ 3 ?_); refine bx_ 3 #[.string a1_0, .slice A1_1 l1_1.length c1_1] 44 ?_; intro gb552 hg w19 hbox hb; have BK552 := am_ (hbox); have GE552 := gw_ HB hg; replace HB := bs_ HB hb; have NB551_552 := nl_ BK551 hg; have NB552_551 := ng_ BK551 hg; replace BK551 := bb_ BK551 hb; clear hb hbox hg; have hnb20 := NB551_552.out; have hnc20 := NB552_551.out; obtain ⟨hcz21_0, hcz21_1, hfz21_0, hfz21_1⟩ := bI BK551.out; obtain ⟨hcz22_0, hcz22_1, hfz22_0, hfz22_1⟩ := bI BK552.out))
  go_ret
  exact ⟨u0_, bw_ HB⟩
def eN.f (k : Nat) (a0_0 : Int) (a0_1 : ByteArray) (l0_2 : List (S86)) (a1_0 : Int) (a1_1 : ByteArray) (l1_2 : List (S86)) : Option (Bool) := if a0_0 = a1_0 then ((dM.f k a0_1 l0_2 a1_1 l1_2).bind fun t556 => (if t556 = true then (some true) else (some false))) else (some false)
theorem eN.calls (k : Nat) (a0_0 : Int) (a0_1 : ByteArray) (A0_2 : Option Addr) (c0_2 : Nat) (l0_2 : List (S86)) (a1_0 : Int) (a1_1 : ByteArray) (A1_2 : Option Addr) (c1_2 : Nat) (l1_2 : List (S86)) (r : Bool) (w : World) (hr0_2 : Kd.C k86 w A0_2 l0_2.length l0_2) (hc0_2 : l0_2.length ≤ c0_2) (hr1_2 : Kd.C k86 w A1_2 l1_2.length l1_2) (hc1_2 : l1_2.length ≤ c1_2) (h : eN.f k a0_0 a0_1 l0_2 a1_0 a1_1 l1_2 = some r) :
  Calls Tryz.prog 122 #[.agg #[.int .i64 a0_0, .string a0_1, .slice A0_2 l0_2.length c0_2], .agg #[.int .i64 a1_0, .string a1_1, .slice A1_2 l1_2.length c1_2]] w fun e w' => e = .returned (.bool r) ∧ Below w.heap.size w w' := by
 have hu46 := Tryz.underlying46; have hu44 := Tryz.underlying44; have HR0_2 := am_ hr0_2; have HC0_2 := am_ hc0_2; clear hr0_2 hc0_2; have HR1_2 := am_ hr1_2; have HC1_2 := am_ hc1_2; clear hr1_2 hc1_2; have HB := am_ (Below.refl w.heap.size w); have H := h; clear h; unfold eN.f at H
 by_cases c3 : a0_0 = a1_0
 ·rw [if_pos c3] at H; have c3b0 := cU c3; have c3b1 := cS c3; clear c3; obtain ⟨t556, A4, H⟩ := bi_ H; cases t556
  ·replace H := hf_ H; obtain rfl := si_ H; go_enter Tryz.func122, Tryz.ntmps122
   go_wp2_with (first | ((with_reducible refine gt_ 2 ?_); refine bx_ 2 #[.int .i64 a0_0, .string a0_1, .slice A0_2 l0_2.length c0_2] 46 ?_; intro gb554 hg w12 hbox hb; have BK554 := am_ (hbox); have GE554 := gw_ HB hg; replace HB := bs_ HB hb; clear hb hbox hg) | ((with_reducible refine gt_ 3 ?_); refine bx_ 3 #[.int .i64 a1_0, .string a1_1, .slice A1_2 l1_2.length c1_2] 46 ?_; intro gb555 hg w13 hbox hb; have BK555 := am_ (hbox); have GE555 := gw_ HB hg; replace HB := bs_ HB hb; have NB554_555 := nl_ BK554 hg; have NB555_554 := ng_ BK554 hg; replace BK554 := bb_ BK554 hb; clear hb hbox hg; have hnb14 := NB554_555.out; have hnc14 := NB555_554.out; obtain ⟨hcz15_0, hcz15_1, hcz15_2, hfz15_0, hfz15_1, hfz15_2⟩ := bO BK554.out; obtain ⟨hcz16_0, hcz16_1, hcz16_2, hfz16_0, hfz16_1, hfz16_2⟩ := bO BK555.out) | ((with_reducible refine gt_ 14 ?_); refine gB_ 14 Tryz.func29 (dM.calls k a0_1 _ _ l0_2 a1_1 _ _ l1_2 false _ (kc_ HR0_2 HB) HC0_2.out (kc_ HR1_2 HB) HC1_2.out A4.out) ?_; intro w17 hb; replace HB := bs_ HB hb; (try clear hb)))
   go_ret
   exact ⟨u0_, bw_ HB⟩
  ·replace H := ht_ H; obtain rfl := si_ H; go_enter Tryz.func122, Tryz.ntmps122
   go_wp2_with (first | ((with_reducible refine gt_ 2 ?_); refine bx_ 2 #[.int .i64 a0_0, .string a0_1, .slice A0_2 l0_2.length c0_2] 46 ?_; intro gb554 hg w6 hbox hb; have BK554 := am_ (hbox); have GE554 := gw_ HB hg; replace HB := bs_ HB hb; clear hb hbox hg) | ((with_reducible refine gt_ 3 ?_); refine bx_ 3 #[.int .i64 a1_0, .string a1_1, .slice A1_2 l1_2.length c1_2] 46 ?_; intro gb555 hg w7 hbox hb; have BK555 := am_ (hbox); have GE555 := gw_ HB hg; replace HB := bs_ HB hb; have NB554_555 := nl_ BK554 hg; have NB555_554 := ng_ BK554 hg; replace BK554 := bb_ BK554 hb; clear hb hbox hg; have hnb8 := NB554_555.out; have hnc8 := NB555_554.out; obtain ⟨hcz9_0, hcz9_1, hcz9_2, hfz9_0, hfz9_1, hfz9_2⟩ := bO BK554.out; obtain ⟨hcz10_0, hcz10_1, hcz10_2, hfz10_0, hfz10_1, hfz10_2⟩ := bO BK555.out) | ((with_reducible refine gt_ 14 ?_); refine gB_ 14 Tryz.func29 (dM.calls k a0_1 _ _ l0_2 a1_1 _ _ l1_2 true _ (kc_ HR0_2 HB) HC0_2.out (kc_ HR1_2 HB) HC1_2.out A4.out) ?_; intro w11 hb; replace HB := bs_ HB hb; (try clear hb)))
   go_ret
   exact ⟨u0_, bw_ HB⟩
 ·rw [if_neg c3] at H; have c3b0 := cT c3; have c3b1 := cV c3; obtain rfl := si_ H; go_enter Tryz.func122, Tryz.ntmps122
  go_wp2_with (first | ((with_reducible refine gt_ 2 ?_); refine bx_ 2 #[.int .i64 a0_0, .string a0_1, .slice A0_2 l0_2.length c0_2] 46 ?_; intro gb554 hg w18 hbox hb; have BK554 := am_ (hbox); have GE554 := gw_ HB hg; replace HB := bs_ HB hb; clear hb hbox hg) | ((with_reducible refine gt_ 3 ?_); refine bx_ 3 #[.int .i64 a1_0, .string a1_1, .slice A1_2 l1_2.length c1_2] 46 ?_; intro gb555 hg w19 hbox hb; have BK555 := am_ (hbox); have GE555 := gw_ HB hg; replace HB := bs_ HB hb; have NB554_555 := nl_ BK554 hg; have NB555_554 := ng_ BK554 hg; replace BK554 := bb_ BK554 hb; clear hb hbox hg; have hnb20 := NB554_555.out; have hnc20 := NB555_554.out; obtain ⟨hcz21_0, hcz21_1, hcz21_2, hfz21_0, hfz21_1, hfz21_2⟩ := bO BK554.out; obtain ⟨hcz22_0, hcz22_1, hcz22_2, hfz22_0, hfz22_1, hfz22_2⟩ := bO BK555.out))
  go_ret
  exact ⟨u0_, bw_ HB⟩
def bb.l0 : Nat → List (S46) → List (S46) → Int → Option (Bool)
 | 0, _, _, _ => none
 | k + 1, x0, x1, x5 => if x5 < (x0.length : Int) then (if 0 ≤ x5 then (if x5 < (x1.length : Int) then ((eN.f k ((ah x0 x5).f0) ((ah x0 x5).f1.f0) ((ah x0 x5).f1.f1) ((ah x1 x5).f0) ((ah x1 x5).f1.f0) ((ah x1 x5).f1.f1)).bind fun t559 => (if t559 = true then (bb.l0 k x0 x1 (wrap64 (x5 + 1))) else (some false))) else (none)) else (none)) else (some true)
def bb.f (k : Nat) (l0 : List (S46)) (l1 : List (S46)) : Option (Bool) := if (l0.length : Int) = (l1.length : Int) then (bb.l0 k l0 l1 0) else (some false)
def bb.T6 : Bool × List (List Nat × List Nat) := (true, [([], []), ([], []), ([0, 1], [0, 1]), ([2], [2]), ([], []), ([], []), ([4, 5], [4, 5]), ([6], [6]), ([3, 7], [3, 7]), ([8], [8])])
def bb.B6 : List Nat := [0, 0, 3, 7, 0, 0, 48, 112, 255, 511]
theorem bb.tab6 : dv .any (fG Tryz.f71 6) = bb.T6 := by kernel_rfl
theorem bb.bits6 : dg bb.T6.2 bb.B6 = true := by kernel_rfl
theorem bb.calls (k : Nat) (A0 : Option Addr) (c0 : Nat) (l0 : List (S46)) (A1 : Option Addr) (c1 : Nat) (l1 : List (S46)) (r : Bool) (w : World) (hr0 : Kd.C k46 w A0 l0.length l0) (hc0 : l0.length ≤ c0) (hr1 : Kd.C k46 w A1 l1.length l1) (hc1 : l1.length ≤ c1) (h : bb.f k l0 l1 = some r) :
  Calls Tryz.prog 71 #[.slice A0 l0.length c0, .slice A1 l1.length c1] w fun e w' => e = .returned (.bool r) ∧ Below w.heap.size w w' := by
 have hu46 := Tryz.underlying46; have HR0 := am_ hr0; have HC0 := am_ hc0; clear hr0 hc0; have HR1 := am_ hr1; have HC1 := am_ hc1; clear hr1 hc1; have HB := am_ (Below.refl w.heap.size w); have H := h; clear h; unfold bb.f at H
 by_cases c3 : (l0.length : Int) = (l1.length : Int)
 ·rw [if_pos c3] at H; have c3b0 := cU c3; have c3b1 := cS c3; have c3b2 : (l0.length == l1.length) = true := by first | simpa using c3 | (simp at c3 ⊢; omega)
  clear c3; have H' := am_ H; clear H; go_enter Tryz.func71, Tryz.ntmps71
  go_wp2; go_loopg [5] k (fun kq v5 w' => ∃ (x5_1 : Int), v5 = .int .i64 x5_1 ∧ aa (bb.l0 kq l0 l1 x5_1 = some r) ∧ aa (kq ≤ k) ∧ aa (Below w.heap.size w w'))
  case atStart => exact ⟨(0), u1_, H', ⟨Nat.le_refl _⟩, ⟨bw_ HB⟩⟩
  case round =>
   clear H'; try clear c1
   try clear c3
   try clear c3b0
   try clear c3b1
   try clear c3b2
   obtain ⟨x5_1, rfl, HA, HK1, HB⟩ := hrel; cases gk with
   | zero => exact absurd HA.out (by simp [bb.l0])
   | succ k1 =>
    have H := HA.out; clear HA; simp only [bb.l0] at H; by_cases c4 : x5_1 < (l0.length : Int)
    ·rw [if_pos c4] at H; have c4b0 := decide_eq_true c4; clear c4; obtain ⟨c5b0, H⟩ := gd_ H; obtain ⟨c6b0, H⟩ := gd_ H; obtain ⟨t559, A7, H⟩ := bi_ H; have HC_ := am_ H; clear H; try go_wp2
     replace HB := am_ (aT HB.out); obtain ⟨ad557, A557_2, c557_2, e557, hx557_0, hx557_1, hx557_2, hl557_2, hi557_2⟩ := f5 HR0.out x5_1 od_ od_; have hw557_2 := hx557_2; have hw557_1 := hx557_1; have hw557_0 := hx557_0; cases e557; replace hx557_0 := cb_ HB hx557_0; replace hx557_1 := cb_ HB hx557_1; replace hx557_2 := cb_ HB hx557_2; have HR557_2 := am_ hi557_2; have HC557_2 := am_ hl557_2; clear hi557_2 hl557_2; obtain ⟨p557, q557⟩ := pt_ x5_1 l0.length; obtain ⟨ad558, A558_2, c558_2, e558, hx558_0, hx558_1, hx558_2, hl558_2, hi558_2⟩ := f5 HR1.out x5_1 od_ od_; have hw558_2 := hx558_2; have hw558_1 := hx558_1; have hw558_0 := hx558_0; cases e558; replace hx558_0 := cb_ HB hx558_0; replace hx558_1 := cb_ HB hx558_1; replace hx558_2 := cb_ HB hx558_2; have HR558_2 := am_ hi558_2; have HC558_2 := am_ hl558_2; clear hi558_2 hl558_2; obtain ⟨p558, q558⟩ := pt_ x5_1 l1.length; refine de (n := 10) (S := fun w' => w'.cell? (ad557.add ((x5_1).toNat * 3)) = some (.int .i64 ((ah l0 x5_1).f0)) ∧ w'.cell? ⟨(ad557.add ((x5_1).toNat * 3)).block, (ad557.add ((x5_1).toNat * 3)).off + 1, none⟩ = some (.string ((ah l0 x5_1).f1.f0)) ∧ w'.cell? ⟨(ad557.add ((x5_1).toNat * 3)).block, (ad557.add ((x5_1).toNat * 3)).off + 2, none⟩ = some (.slice A557_2 ((ah l0 x5_1).f1.f1).length c557_2) ∧ w'.cell? (ad558.add ((x5_1).toNat * 3)) = some (.int .i64 ((ah l1 x5_1).f0)) ∧ w'.cell? ⟨(ad558.add ((x5_1).toNat * 3)).block, (ad558.add ((x5_1).toNat * 3)).off + 1, none⟩ = some (.string ((ah l1 x5_1).f1.f0)) ∧ w'.cell? ⟨(ad558.add ((x5_1).toNat * 3)).block, (ad558.add ((x5_1).toNat * 3)).off + 2, none⟩ = some (.slice A558_2 ((ah l1 x5_1).f1.f1).length c558_2)) (ds := []) (bm_ 10 0) cn rfl rfl ⟨(cc_ HB hw557_0), (cc_ HB hw557_1), (cc_ HB hw557_2), (cc_ HB hw558_0), (cc_ HB hw558_1), (cc_ HB hw558_2)⟩ (fun hHeld => ?_); refine bM bb.tab6 bb.bits6 (fun HT_ HW_ => ?_); generalize wr.drew = w11 at HB HR557_2 HR558_2 hx557_0 hx557_1 hx557_2 hx558_0 hx558_1 hx558_2 hHeld ⊢; refine pv_ 0 17 ?_; refine pv_ 1 18 ?_; refine pv_ 2 19 ?_; refine pv_ 4 21 ?_; refine pv_ 5 22 ?_; refine pv_ 6 23 ?_; refine tv_ 3 20 ?_; refine tv_ 7 24 ?_; refine ov_ 8 25 (fun K hK => ?_); refine oB_ Tryz.func122 (eN.calls k1 ((ah l0 x5_1).f0) ((ah l0 x5_1).f1.f0) _ _ ((ah l0 x5_1).f1.f1) ((ah l1 x5_1).f0) ((ah l1 x5_1).f1.f0) _ _ ((ah l1 x5_1).f1.f1) t559 _ (kc_ HR557_2 HB) HC557_2.out (kc_ HR558_2 HB) HC558_2.out A7.out) ?_; intro w12 hb; replace HB := bs_ HB hb; (try clear hb)
     refine hK.out _ _ ⟨(cc_ HB hw557_0), (cc_ HB hw557_1), (cc_ HB hw557_2), (cc_ HB hw558_0), (cc_ HB hw558_1), (cc_ HB hw558_2)⟩ (fun hHeld => ?_); clear hK K; refine nm_ ?_; refine pv_ 9 26 ?_; refine dn_ HT_ ?_; have H := HC_.out; clear HC_; cases t559
     ·replace H := hf_ H; obtain rfl := si_ H; try go_wp2
      go_ret
      exact ⟨u0_, bw_ HB⟩
     ·replace H := ht_ H; have H' := am_ H; clear H; try go_wp2
      go_roundg k1
      case measure => have := HK1.out; omega
      case rel => exact ⟨(wrap64 (x5_1 + 1)), u1_, H', ⟨dk⟩, ⟨bw_ HB⟩⟩
    ·rw [if_neg c4] at H; have c4b0 := decide_eq_false c4; clear c4; obtain rfl := si_ H; go_wp2; go_ret
     exact ⟨u0_, bw_ HB⟩
 ·rw [if_neg c3] at H; have c3b0 := cT c3; have c3b1 := cV c3; have c3b2 : (l0.length == l1.length) = false := by first | simpa using c3 | (simp at c3 ⊢; omega)
  obtain rfl := si_ H; go_enter Tryz.func71, Tryz.ntmps71
  go_wp2; go_ret
  exact ⟨u0_, bw_ HB⟩
def ca.l0 : Nat → List Int → List Int → Int → Option (Bool)
 | 0, _, _, _ => none
 | k + 1, x0, x1, x5 => if x5 < (x0.length : Int) then (if 0 ≤ x5 then (if x5 < (x1.length : Int) then (if (rd x0 x5) = (rd x1 x5) then (ca.l0 k x0 x1 (wrap64 (x5 + 1))) else (some false)) else (none)) else (none)) else (some true)
def ca.f (k : Nat) (l0 : List Int) (l1 : List Int) : Option (Bool) := if (l0.length : Int) = (l1.length : Int) then (ca.l0 k l0 l1 0) else (some false)
theorem ca.calls (k : Nat) (A0 : Option Addr) (c0 : Nat) (l0 : List Int) (A1 : Option Addr) (c1 : Nat) (l1 : List Int) (r : Bool) (w : World) (hr0 : Kd.C (Kd.int .i64) w A0 l0.length l0) (hc0 : l0.length ≤ c0) (hr1 : Kd.C (Kd.int .i64) w A1 l1.length l1) (hc1 : l1.length ≤ c1) (h : ca.f k l0 l1 = some r) :
  Calls Tryz.prog 125 #[.slice A0 l0.length c0, .slice A1 l1.length c1] w fun e w' => e = .returned (.bool r) ∧ Drawn0 w w' := by
 have HR0 := am_ hr0; have HC0 := am_ hc0; clear hr0 hc0; have HR1 := am_ hr1; have HC1 := am_ hc1; clear hr1 hc1; have H := h; clear h; unfold ca.f at H
 by_cases c3 : (l0.length : Int) = (l1.length : Int)
 ·rw [if_pos c3] at H; have c3b0 := cU c3; have c3b1 := cS c3; have c3b2 : (l0.length == l1.length) = true := by first | simpa using c3 | (simp at c3 ⊢; omega)
  clear c3; have H' := am_ H; clear H; go_enter Tryz.func125, Tryz.ntmps125
  go_wp2; repeat (go_quiet (fail); try go_wp2)
  go_loopg [5] k (fun kq v5 w' => ∃ (x5_1 : Int), v5 = .int .i64 x5_1 ∧ aa (ca.l0 kq l0 l1 x5_1 = some r) ∧ aa (kq ≤ k) ∧ Drawn0 w w')
  case atStart => exact ⟨(0), u1_, H', ⟨Nat.le_refl _⟩, u3_⟩
  case round =>
   clear H'; try clear c1
   try clear c3
   try clear c3b0
   try clear c3b1
   try clear c3b2
   obtain ⟨x5_1, rfl, HA, HK1, ⟨m1, rfl⟩⟩ := hrel; cases gk with
   | zero => exact absurd HA.out (by simp [ca.l0])
   | succ k1 =>
    have H := HA.out; clear HA; simp only [ca.l0] at H; by_cases c4 : x5_1 < (l0.length : Int)
    ·rw [if_pos c4] at H; have c4b0 := decide_eq_true c4; clear c4; obtain ⟨c5b0, H⟩ := gd_ H; obtain ⟨c6b0, H⟩ := gd_ H; have HC_ := am_ H; clear H; obtain ⟨ad560, e560, hx560_0⟩ := Kd.at_int HR0.out x5_1 od_ od_; cases e560; obtain ⟨p560, q560⟩ := pt_ x5_1 l0.length; obtain ⟨ad561, e561, hx561_0⟩ := Kd.at_int HR1.out x5_1 od_ od_; cases e561; obtain ⟨p561, q561⟩ := pt_ x5_1 l1.length; have H := HC_.out; clear HC_; by_cases c7 : (rd l0 x5_1) = (rd l1 x5_1)
     ·rw [if_pos c7] at H; have c7b0 := cU c7; have c7b1 := cS c7; clear c7; have H' := am_ H; clear H; (first | rw [c7b0] | (simp only [aq, av]; rw [c7b0]) | skip)
      go_wp2; repeat (go_quiet (fail); try go_wp2)
      go_roundg k1
      case measure => have := HK1.out; omega
      case rel => exact ⟨(wrap64 (x5_1 + 1)), u1_, H', ⟨dk⟩, u3_⟩
     ·rw [if_neg c7] at H; have c7b0 := cT c7; have c7b1 := cV c7; obtain rfl := si_ H; (first | rw [c7b0] | (simp only [aq, av]; rw [c7b0]) | skip)
      go_wp2; repeat (go_quiet (fail); try go_wp2)
      go_ret
      exact ⟨u4_, u3_⟩
    ·rw [if_neg c4] at H; have c4b0 := decide_eq_false c4; clear c4; obtain rfl := si_ H; go_wp2; repeat (go_quiet (fail); try go_wp2)
     go_ret
     exact ⟨u4_, u3_⟩
 ·rw [if_neg c3] at H; have c3b0 := cT c3; have c3b1 := cV c3; have c3b2 : (l0.length == l1.length) = false := by first | simpa using c3 | (simp at c3 ⊢; omega)
  obtain rfl := si_ H; go_enter Tryz.func125, Tryz.ntmps125
  go_wp2; repeat (go_quiet (fail); try go_wp2)
  go_ret
  exact ⟨u4_, u3_⟩
def el.f (k : Nat) (a0_0 : Int) (l0_1 : List Int) (a1_0 : Int) (l1_1 : List Int) : Option (Bool) := if a0_0 = a1_0 then ((ca.f k l0_1 l1_1).bind fun t564 => (if t564 = true then (some true) else (some false))) else (some false)
theorem el.calls (k : Nat) (a0_0 : Int) (A0_1 : Option Addr) (c0_1 : Nat) (l0_1 : List Int) (a1_0 : Int) (A1_1 : Option Addr) (c1_1 : Nat) (l1_1 : List Int) (r : Bool) (w : World) (hr0_1 : Kd.C (Kd.int .i64) w A0_1 l0_1.length l0_1) (hc0_1 : l0_1.length ≤ c0_1) (hr1_1 : Kd.C (Kd.int .i64) w A1_1 l1_1.length l1_1) (hc1_1 : l1_1.length ≤ c1_1) (h : el.f k a0_0 l0_1 a1_0 l1_1 = some r) :
  Calls Tryz.prog 80 #[.agg #[.int .i64 a0_0, .slice A0_1 l0_1.length c0_1], .agg #[.int .i64 a1_0, .slice A1_1 l1_1.length c1_1]] w fun e w' => e = .returned (.bool r) ∧ Below w.heap.size w w' := by
 have hu50 := Tryz.underlying50; have HR0_1 := am_ hr0_1; have HC0_1 := am_ hc0_1; clear hr0_1 hc0_1; have HR1_1 := am_ hr1_1; have HC1_1 := am_ hc1_1; clear hr1_1 hc1_1; have HB := am_ (Below.refl w.heap.size w); have H := h; clear h; unfold el.f at H
 by_cases c3 : a0_0 = a1_0
 ·rw [if_pos c3] at H; have c3b0 := cU c3; have c3b1 := cS c3; clear c3; obtain ⟨t564, A4, H⟩ := bi_ H; cases t564
  ·replace H := hf_ H; obtain rfl := si_ H; go_enter Tryz.func80, Tryz.ntmps80
   go_wp2_with (first | ((with_reducible refine gt_ 2 ?_); refine bx_ 2 #[.int .i64 a0_0, .slice A0_1 l0_1.length c0_1] 50 ?_; intro gb562 hg w11 hbox hb; have BK562 := am_ (hbox); have GE562 := gw_ HB hg; replace HB := bs_ HB hb; clear hb hbox hg) | ((with_reducible refine gt_ 3 ?_); refine bx_ 3 #[.int .i64 a1_0, .slice A1_1 l1_1.length c1_1] 50 ?_; intro gb563 hg w12 hbox hb; have BK563 := am_ (hbox); have GE563 := gw_ HB hg; replace HB := bs_ HB hb; have NB562_563 := nl_ BK562 hg; have NB563_562 := ng_ BK562 hg; replace BK562 := bb_ BK562 hb; clear hb hbox hg; have hnb13 := NB562_563.out; have hnc13 := NB563_562.out; obtain ⟨hcz14_0, hcz14_1, hfz14_0, hfz14_1⟩ := bI BK562.out; obtain ⟨hcz15_0, hcz15_1, hfz15_0, hfz15_1⟩ := bI BK563.out) | ((with_reducible refine gt_ 14 ?_); refine gD_ 14 Tryz.func125 (ca.calls k _ _ l0_1 _ _ l1_1 false _ (kc_ HR0_1 HB) HC0_1.out (kc_ HR1_1 HB) HC1_1.out A4.out) ?_; intro nd))
   go_ret
   exact ⟨u0_, bw_ HB⟩
  ·replace H := ht_ H; obtain rfl := si_ H; go_enter Tryz.func80, Tryz.ntmps80
   go_wp2_with (first | ((with_reducible refine gt_ 2 ?_); refine bx_ 2 #[.int .i64 a0_0, .slice A0_1 l0_1.length c0_1] 50 ?_; intro gb562 hg w6 hbox hb; have BK562 := am_ (hbox); have GE562 := gw_ HB hg; replace HB := bs_ HB hb; clear hb hbox hg) | ((with_reducible refine gt_ 3 ?_); refine bx_ 3 #[.int .i64 a1_0, .slice A1_1 l1_1.length c1_1] 50 ?_; intro gb563 hg w7 hbox hb; have BK563 := am_ (hbox); have GE563 := gw_ HB hg; replace HB := bs_ HB hb; have NB562_563 := nl_ BK562 hg; have NB563_562 := ng_ BK562 hg; replace BK562 := bb_ BK562 hb; clear hb hbox hg; have hnb8 := NB562_563.out; have hnc8 := NB563_562.out; obtain ⟨hcz9_0, hcz9_1, hfz9_0, hfz9_1⟩ := bI BK562.out; obtain ⟨hcz10_0, hcz10_1, hfz10_0, hfz10_1⟩ := bI BK563.out) | ((with_reducible refine gt_ 14 ?_); refine gD_ 14 Tryz.func125 (ca.calls k _ _ l0_1 _ _ l1_1 true _ (kc_ HR0_1 HB) HC0_1.out (kc_ HR1_1 HB) HC1_1.out A4.out) ?_; intro nd))
   go_ret
   exact ⟨u0_, bw_ HB⟩
 ·rw [if_neg c3] at H; have c3b0 := cT c3; have c3b1 := cV c3; obtain rfl := si_ H; go_enter Tryz.func80, Tryz.ntmps80
  go_wp2_with (first | ((with_reducible refine gt_ 2 ?_); refine bx_ 2 #[.int .i64 a0_0, .slice A0_1 l0_1.length c0_1] 50 ?_; intro gb562 hg w16 hbox hb; have BK562 := am_ (hbox); have GE562 := gw_ HB hg; replace HB := bs_ HB hb; clear hb hbox hg) | ((with_reducible refine gt_ 3 ?_); refine bx_ 3 #[.int .i64 a1_0, .slice A1_1 l1_1.length c1_1] 50 ?_; intro gb563 hg w17 hbox hb; have BK563 := am_ (hbox); have GE563 := gw_ HB hg; replace HB := bs_ HB hb; have NB562_563 := nl_ BK562 hg; have NB563_562 := ng_ BK562 hg; replace BK562 := bb_ BK562 hb; clear hb hbox hg; have hnb18 := NB562_563.out; have hnc18 := NB563_562.out; obtain ⟨hcz19_0, hcz19_1, hfz19_0, hfz19_1⟩ := bI BK562.out; obtain ⟨hcz20_0, hcz20_1, hfz20_0, hfz20_1⟩ := bI BK563.out))
  go_ret
  exact ⟨u0_, bw_ HB⟩
def aG.l0 : Nat → List (S50) → List (S50) → Int → Option (Bool)
 | 0, _, _, _ => none
 | k + 1, x0, x1, x5 => if x5 < (x0.length : Int) then (if 0 ≤ x5 then (if x5 < (x1.length : Int) then ((el.f k ((ak x0 x5).f0) ((ak x0 x5).f1) ((ak x1 x5).f0) ((ak x1 x5).f1)).bind fun t567 => (if t567 = true then (aG.l0 k x0 x1 (wrap64 (x5 + 1))) else (some false))) else (none)) else (none)) else (some true)
def aG.f (k : Nat) (l0 : List (S50)) (l1 : List (S50)) : Option (Bool) := if (l0.length : Int) = (l1.length : Int) then (aG.l0 k l0 l1 0) else (some false)
def aG.T6 : Bool × List (List Nat × List Nat) := (true, [([], []), ([], []), ([0, 1], [0, 1]), ([2], [2]), ([], []), ([], []), ([4, 5], [4, 5]), ([6], [6]), ([3, 7], [3, 7]), ([8], [8])])
def aG.B6 : List Nat := [0, 0, 3, 7, 0, 0, 48, 112, 255, 511]
theorem aG.tab6 : dv .any (fG Tryz.f33 6) = aG.T6 := by kernel_rfl
theorem aG.bits6 : dg aG.T6.2 aG.B6 = true := by kernel_rfl
theorem aG.calls (k : Nat) (A0 : Option Addr) (c0 : Nat) (l0 : List (S50)) (A1 : Option Addr) (c1 : Nat) (l1 : List (S50)) (r : Bool) (w : World) (hr0 : Kd.C k50 w A0 l0.length l0) (hc0 : l0.length ≤ c0) (hr1 : Kd.C k50 w A1 l1.length l1) (hc1 : l1.length ≤ c1) (h : aG.f k l0 l1 = some r) :
  Calls Tryz.prog 33 #[.slice A0 l0.length c0, .slice A1 l1.length c1] w fun e w' => e = .returned (.bool r) ∧ Below w.heap.size w w' := by
 have hu50 := Tryz.underlying50; have HR0 := am_ hr0; have HC0 := am_ hc0; clear hr0 hc0; have HR1 := am_ hr1; have HC1 := am_ hc1; clear hr1 hc1; have HB := am_ (Below.refl w.heap.size w); have H := h; clear h; unfold aG.f at H
 by_cases c3 : (l0.length : Int) = (l1.length : Int)
 ·rw [if_pos c3] at H; have c3b0 := cU c3; have c3b1 := cS c3; have c3b2 : (l0.length == l1.length) = true := by first | simpa using c3 | (simp at c3 ⊢; omega)
  clear c3; have H' := am_ H; clear H; go_enter Tryz.func33, Tryz.ntmps33
  go_wp2; go_loopg [5] k (fun kq v5 w' => ∃ (x5_1 : Int), v5 = .int .i64 x5_1 ∧ aa (aG.l0 kq l0 l1 x5_1 = some r) ∧ aa (kq ≤ k) ∧ aa (Below w.heap.size w w'))
  case atStart => exact ⟨(0), u1_, H', ⟨Nat.le_refl _⟩, ⟨bw_ HB⟩⟩
  case round =>
   clear H'; try clear c1
   try clear c3
   try clear c3b0
   try clear c3b1
   try clear c3b2
   obtain ⟨x5_1, rfl, HA, HK1, HB⟩ := hrel; cases gk with
   | zero => exact absurd HA.out (by simp [aG.l0])
   | succ k1 =>
    have H := HA.out; clear HA; simp only [aG.l0] at H; by_cases c4 : x5_1 < (l0.length : Int)
    ·rw [if_pos c4] at H; have c4b0 := decide_eq_true c4; clear c4; obtain ⟨c5b0, H⟩ := gd_ H; obtain ⟨c6b0, H⟩ := gd_ H; obtain ⟨t567, A7, H⟩ := bi_ H; have HC_ := am_ H; clear H; try go_wp2
     replace HB := am_ (aT HB.out); obtain ⟨ad565, A565_1, c565_1, e565, hx565_0, hx565_1, hl565_1, hi565_1⟩ := fP HR0.out x5_1 od_ od_; have hw565_1 := hx565_1; have hw565_0 := hx565_0; cases e565; replace hx565_0 := cb_ HB hx565_0; replace hx565_1 := cb_ HB hx565_1; have HR565_1 := am_ hi565_1; have HC565_1 := am_ hl565_1; clear hi565_1 hl565_1; obtain ⟨p565, q565⟩ := pt_ x5_1 l0.length; obtain ⟨ad566, A566_1, c566_1, e566, hx566_0, hx566_1, hl566_1, hi566_1⟩ := fP HR1.out x5_1 od_ od_; have hw566_1 := hx566_1; have hw566_0 := hx566_0; cases e566; replace hx566_0 := cb_ HB hx566_0; replace hx566_1 := cb_ HB hx566_1; have HR566_1 := am_ hi566_1; have HC566_1 := am_ hl566_1; clear hi566_1 hl566_1; obtain ⟨p566, q566⟩ := pt_ x5_1 l1.length; refine de (n := 10) (S := fun w' => w'.cell? (ad565.add ((x5_1).toNat * 2)) = some (.int .i64 ((ak l0 x5_1).f0)) ∧ w'.cell? ⟨(ad565.add ((x5_1).toNat * 2)).block, (ad565.add ((x5_1).toNat * 2)).off + 1, none⟩ = some (.slice A565_1 ((ak l0 x5_1).f1).length c565_1) ∧ w'.cell? (ad566.add ((x5_1).toNat * 2)) = some (.int .i64 ((ak l1 x5_1).f0)) ∧ w'.cell? ⟨(ad566.add ((x5_1).toNat * 2)).block, (ad566.add ((x5_1).toNat * 2)).off + 1, none⟩ = some (.slice A566_1 ((ak l1 x5_1).f1).length c566_1)) (ds := []) (bm_ 10 0) cn rfl rfl ⟨(cc_ HB hw565_0), (cc_ HB hw565_1), (cc_ HB hw566_0), (cc_ HB hw566_1)⟩ (fun hHeld => ?_); refine bM aG.tab6 aG.bits6 (fun HT_ HW_ => ?_); generalize wr.drew = w11 at HB HR565_1 HR566_1 hx565_0 hx565_1 hx566_0 hx566_1 hHeld ⊢; refine pv_ 0 17 ?_; refine pv_ 1 18 ?_; refine pv_ 2 19 ?_; refine pv_ 4 21 ?_; refine pv_ 5 22 ?_; refine pv_ 6 23 ?_; refine tv_ 3 20 ?_; refine tv_ 7 24 ?_; refine ov_ 8 25 (fun K hK => ?_); refine oB_ Tryz.func80 (el.calls k1 ((ak l0 x5_1).f0) _ _ ((ak l0 x5_1).f1) ((ak l1 x5_1).f0) _ _ ((ak l1 x5_1).f1) t567 _ (kc_ HR565_1 HB) HC565_1.out (kc_ HR566_1 HB) HC566_1.out A7.out) ?_; intro w12 hb; replace HB := bs_ HB hb; (try clear hb)
     refine hK.out _ _ ⟨(cc_ HB hw565_0), (cc_ HB hw565_1), (cc_ HB hw566_0), (cc_ HB hw566_1)⟩ (fun hHeld => ?_); clear hK K; refine nm_ ?_; refine pv_ 9 26 ?_; refine dn_ HT_ ?_; have H := HC_.out; clear HC_; cases t567
     ·replace H := hf_ H; obtain rfl := si_ H; try go_wp2
      go_ret
      exact ⟨u0_, bw_ HB⟩
     ·replace H := ht_ H; have H' := am_ H; clear H; try go_wp2
      go_roundg k1
      case measure => have := HK1.out; omega
      case rel => exact ⟨(wrap64 (x5_1 + 1)), u1_, H', ⟨dk⟩, ⟨bw_ HB⟩⟩
    ·rw [if_neg c4] at H; have c4b0 := decide_eq_false c4; clear c4; obtain rfl := si_ H; go_wp2; go_ret
     exact ⟨u0_, bw_ HB⟩
 ·rw [if_neg c3] at H; have c3b0 := cT c3; have c3b1 := cV c3; have c3b2 : (l0.length == l1.length) = false := by first | simpa using c3 | (simp at c3 ⊢; omega)
  obtain rfl := si_ H; go_enter Tryz.func33, Tryz.ntmps33
  go_wp2; go_ret
  exact ⟨u0_, bw_ HB⟩
def dP.f (k : Nat) (a0_0 : ByteArray) (a0_1 : ByteArray) (l0_2 : List (S50)) (a1_0 : ByteArray) (a1_1 : ByteArray) (l1_2 : List (S50)) : Option (Bool) := if a0_0.toList = a1_0.toList then (if a0_1.toList = a1_1.toList then ((aG.f k l0_2 l1_2).bind fun t570 => (if t570 = true then (some true) else (some false))) else (some false)) else (some false)
theorem dP.calls (k : Nat) (a0_0 : ByteArray) (a0_1 : ByteArray) (A0_2 : Option Addr) (c0_2 : Nat) (l0_2 : List (S50)) (a1_0 : ByteArray) (a1_1 : ByteArray) (A1_2 : Option Addr) (c1_2 : Nat) (l1_2 : List (S50)) (r : Bool) (w : World) (hr0_2 : Kd.C k50 w A0_2 l0_2.length l0_2) (hc0_2 : l0_2.length ≤ c0_2) (hr1_2 : Kd.C k50 w A1_2 l1_2.length l1_2) (hc1_2 : l1_2.length ≤ c1_2) (h : dP.f k a0_0 a0_1 l0_2 a1_0 a1_1 l1_2 = some r) :
  Calls Tryz.prog 123 #[.agg #[.string a0_0, .string a0_1, .slice A0_2 l0_2.length c0_2], .agg #[.string a1_0, .string a1_1, .slice A1_2 l1_2.length c1_2]] w fun e w' => e = .returned (.bool r) ∧ Below w.heap.size w w' := by
 have hu76 := Tryz.underlying76; have HR0_2 := am_ hr0_2; have HC0_2 := am_ hc0_2; clear hr0_2 hc0_2; have HR1_2 := am_ hr1_2; have HC1_2 := am_ hc1_2; clear hr1_2 hc1_2; have HB := am_ (Below.refl w.heap.size w); have H := h; clear h; unfold dP.f at H
 by_cases c3 : a0_0.toList = a1_0.toList
 ·rw [if_pos c3] at H; have c3b0 := cU c3; have c3b1 := cS c3; clear c3; by_cases c4 : a0_1.toList = a1_1.toList
  ·rw [if_pos c4] at H; have c4b0 := cU c4; have c4b1 := cS c4; clear c4; obtain ⟨t570, A5, H⟩ := bi_ H; cases t570
   ·replace H := hf_ H; obtain rfl := si_ H; go_enter Tryz.func123, Tryz.ntmps123
    go_wp2_with (first | ((with_reducible refine gt_ 2 ?_); refine bx_ 2 #[.string a0_0, .string a0_1, .slice A0_2 l0_2.length c0_2] 76 ?_; intro gb568 hg w13 hbox hb; have BK568 := am_ (hbox); have GE568 := gw_ HB hg; replace HB := bs_ HB hb; clear hb hbox hg) | ((with_reducible refine gt_ 3 ?_); refine bx_ 3 #[.string a1_0, .string a1_1, .slice A1_2 l1_2.length c1_2] 76 ?_; intro gb569 hg w14 hbox hb; have BK569 := am_ (hbox); have GE569 := gw_ HB hg; replace HB := bs_ HB hb; have NB568_569 := nl_ BK568 hg; have NB569_568 := ng_ BK568 hg; replace BK568 := bb_ BK568 hb; clear hb hbox hg; have hnb15 := NB568_569.out; have hnc15 := NB569_568.out; obtain ⟨hcz16_0, hcz16_1, hcz16_2, hfz16_0, hfz16_1, hfz16_2⟩ := bO BK568.out; obtain ⟨hcz17_0, hcz17_1, hcz17_2, hfz17_0, hfz17_1, hfz17_2⟩ := bO BK569.out) | ((with_reducible refine gt_ 19 ?_); refine gB_ 19 Tryz.func33 (aG.calls k _ _ l0_2 _ _ l1_2 false _ (kc_ HR0_2 HB) HC0_2.out (kc_ HR1_2 HB) HC1_2.out A5.out) ?_; intro w18 hb; replace HB := bs_ HB hb; (try clear hb)))
    go_ret
    exact ⟨u0_, bw_ HB⟩
   ·replace H := ht_ H; obtain rfl := si_ H; go_enter Tryz.func123, Tryz.ntmps123
    go_wp2_with (first | ((with_reducible refine gt_ 2 ?_); refine bx_ 2 #[.string a0_0, .string a0_1, .slice A0_2 l0_2.length c0_2] 76 ?_; intro gb568 hg w7 hbox hb; have BK568 := am_ (hbox); have GE568 := gw_ HB hg; replace HB := bs_ HB hb; clear hb hbox hg) | ((with_reducible refine gt_ 3 ?_); refine bx_ 3 #[.string a1_0, .string a1_1, .slice A1_2 l1_2.length c1_2] 76 ?_; intro gb569 hg w8 hbox hb; have BK569 := am_ (hbox); have GE569 := gw_ HB hg; replace HB := bs_ HB hb; have NB568_569 := nl_ BK568 hg; have NB569_568 := ng_ BK568 hg; replace BK568 := bb_ BK568 hb; clear hb hbox hg; have hnb9 := NB568_569.out; have hnc9 := NB569_568.out; obtain ⟨hcz10_0, hcz10_1, hcz10_2, hfz10_0, hfz10_1, hfz10_2⟩ := bO BK568.out; obtain ⟨hcz11_0, hcz11_1, hcz11_2, hfz11_0, hfz11_1, hfz11_2⟩ := bO BK569.out) | ((with_reducible refine gt_ 19 ?_); refine gB_ 19 Tryz.func33 (aG.calls k _ _ l0_2 _ _ l1_2 true _ (kc_ HR0_2 HB) HC0_2.out (kc_ HR1_2 HB) HC1_2.out A5.out) ?_; intro w12 hb; replace HB := bs_ HB hb; (try clear hb)))
    go_ret
    exact ⟨u0_, bw_ HB⟩
  ·rw [if_neg c4] at H; have c4b0 := cT c4; have c4b1 := cV c4; obtain rfl := si_ H; go_enter Tryz.func123, Tryz.ntmps123
   go_wp2_with (first | ((with_reducible refine gt_ 2 ?_); refine bx_ 2 #[.string a0_0, .string a0_1, .slice A0_2 l0_2.length c0_2] 76 ?_; intro gb568 hg w19 hbox hb; have BK568 := am_ (hbox); have GE568 := gw_ HB hg; replace HB := bs_ HB hb; clear hb hbox hg) | ((with_reducible refine gt_ 3 ?_); refine bx_ 3 #[.string a1_0, .string a1_1, .slice A1_2 l1_2.length c1_2] 76 ?_; intro gb569 hg w20 hbox hb; have BK569 := am_ (hbox); have GE569 := gw_ HB hg; replace HB := bs_ HB hb; have NB568_569 := nl_ BK568 hg; have NB569_568 := ng_ BK568 hg; replace BK568 := bb_ BK568 hb; clear hb hbox hg; have hnb21 := NB568_569.out; have hnc21 := NB569_568.out; obtain ⟨hcz22_0, hcz22_1, hcz22_2, hfz22_0, hfz22_1, hfz22_2⟩ := bO BK568.out; obtain ⟨hcz23_0, hcz23_1, hcz23_2, hfz23_0, hfz23_1, hfz23_2⟩ := bO BK569.out))
   go_ret
   exact ⟨u0_, bw_ HB⟩
 ·rw [if_neg c3] at H; have c3b0 := cT c3; have c3b1 := cV c3; obtain rfl := si_ H; go_enter Tryz.func123, Tryz.ntmps123
  go_wp2_with (first | ((with_reducible refine gt_ 2 ?_); refine bx_ 2 #[.string a0_0, .string a0_1, .slice A0_2 l0_2.length c0_2] 76 ?_; intro gb568 hg w24 hbox hb; have BK568 := am_ (hbox); have GE568 := gw_ HB hg; replace HB := bs_ HB hb; clear hb hbox hg) | ((with_reducible refine gt_ 3 ?_); refine bx_ 3 #[.string a1_0, .string a1_1, .slice A1_2 l1_2.length c1_2] 76 ?_; intro gb569 hg w25 hbox hb; have BK569 := am_ (hbox); have GE569 := gw_ HB hg; replace HB := bs_ HB hb; have NB568_569 := nl_ BK568 hg; have NB569_568 := ng_ BK568 hg; replace BK568 := bb_ BK568 hb; clear hb hbox hg; have hnb26 := NB568_569.out; have hnc26 := NB569_568.out; obtain ⟨hcz27_0, hcz27_1, hcz27_2, hfz27_0, hfz27_1, hfz27_2⟩ := bO BK568.out; obtain ⟨hcz28_0, hcz28_1, hcz28_2, hfz28_0, hfz28_1, hfz28_2⟩ := bO BK569.out))
  go_ret
  exact ⟨u0_, bw_ HB⟩
def aH.l0 : Nat → List (S76) → List (S76) → Int → Option (Bool)
 | 0, _, _, _ => none
 | k + 1, x0, x1, x5 => if x5 < (x0.length : Int) then (if 0 ≤ x5 then (if x5 < (x1.length : Int) then ((dP.f k ((ab x0 x5).f0) ((ab x0 x5).f1) ((ab x0 x5).f2) ((ab x1 x5).f0) ((ab x1 x5).f1) ((ab x1 x5).f2)).bind fun t573 => (if t573 = true then (aH.l0 k x0 x1 (wrap64 (x5 + 1))) else (some false))) else (none)) else (none)) else (some true)
def aH.f (k : Nat) (l0 : List (S76)) (l1 : List (S76)) : Option (Bool) := if (l0.length : Int) = (l1.length : Int) then (aH.l0 k l0 l1 0) else (some false)
def aH.T6 : Bool × List (List Nat × List Nat) := (true, [([], []), ([], []), ([0, 1], [0, 1]), ([2], [2]), ([], []), ([], []), ([4, 5], [4, 5]), ([6], [6]), ([3, 7], [3, 7]), ([8], [8])])
def aH.B6 : List Nat := [0, 0, 3, 7, 0, 0, 48, 112, 255, 511]
theorem aH.tab6 : dv .any (fG Tryz.f72 6) = aH.T6 := by kernel_rfl
theorem aH.bits6 : dg aH.T6.2 aH.B6 = true := by kernel_rfl
theorem aH.calls (k : Nat) (A0 : Option Addr) (c0 : Nat) (l0 : List (S76)) (A1 : Option Addr) (c1 : Nat) (l1 : List (S76)) (r : Bool) (w : World) (hr0 : Kd.C k76 w A0 l0.length l0) (hc0 : l0.length ≤ c0) (hr1 : Kd.C k76 w A1 l1.length l1) (hc1 : l1.length ≤ c1) (h : aH.f k l0 l1 = some r) :
  Calls Tryz.prog 72 #[.slice A0 l0.length c0, .slice A1 l1.length c1] w fun e w' => e = .returned (.bool r) ∧ Below w.heap.size w w' := by
 have hu76 := Tryz.underlying76; have HR0 := am_ hr0; have HC0 := am_ hc0; clear hr0 hc0; have HR1 := am_ hr1; have HC1 := am_ hc1; clear hr1 hc1; have HB := am_ (Below.refl w.heap.size w); have H := h; clear h; unfold aH.f at H
 by_cases c3 : (l0.length : Int) = (l1.length : Int)
 ·rw [if_pos c3] at H; have c3b0 := cU c3; have c3b1 := cS c3; have c3b2 : (l0.length == l1.length) = true := by first | simpa using c3 | (simp at c3 ⊢; omega)
  clear c3; have H' := am_ H; clear H; go_enter Tryz.func72, Tryz.ntmps72
  go_wp2; go_loopg [5] k (fun kq v5 w' => ∃ (x5_1 : Int), v5 = .int .i64 x5_1 ∧ aa (aH.l0 kq l0 l1 x5_1 = some r) ∧ aa (kq ≤ k) ∧ aa (Below w.heap.size w w'))
  case atStart => exact ⟨(0), u1_, H', ⟨Nat.le_refl _⟩, ⟨bw_ HB⟩⟩
  case round =>
   clear H'; try clear c1
   try clear c3
   try clear c3b0
   try clear c3b1
   try clear c3b2
   obtain ⟨x5_1, rfl, HA, HK1, HB⟩ := hrel; cases gk with
   | zero => exact absurd HA.out (by simp [aH.l0])
   | succ k1 =>
    have H := HA.out; clear HA; simp only [aH.l0] at H; by_cases c4 : x5_1 < (l0.length : Int)
    ·rw [if_pos c4] at H; have c4b0 := decide_eq_true c4; clear c4; obtain ⟨c5b0, H⟩ := gd_ H; obtain ⟨c6b0, H⟩ := gd_ H; obtain ⟨t573, A7, H⟩ := bi_ H; have HC_ := am_ H; clear H; try go_wp2
     replace HB := am_ (aT HB.out); obtain ⟨ad571, A571_2, c571_2, e571, hx571_0, hx571_1, hx571_2, hl571_2, hi571_2⟩ := eA HR0.out x5_1 od_ od_; have hw571_2 := hx571_2; have hw571_1 := hx571_1; have hw571_0 := hx571_0; cases e571; replace hx571_0 := cb_ HB hx571_0; replace hx571_1 := cb_ HB hx571_1; replace hx571_2 := cb_ HB hx571_2; have HR571_2 := am_ hi571_2; have HC571_2 := am_ hl571_2; clear hi571_2 hl571_2; obtain ⟨p571, q571⟩ := pt_ x5_1 l0.length; obtain ⟨ad572, A572_2, c572_2, e572, hx572_0, hx572_1, hx572_2, hl572_2, hi572_2⟩ := eA HR1.out x5_1 od_ od_; have hw572_2 := hx572_2; have hw572_1 := hx572_1; have hw572_0 := hx572_0; cases e572; replace hx572_0 := cb_ HB hx572_0; replace hx572_1 := cb_ HB hx572_1; replace hx572_2 := cb_ HB hx572_2; have HR572_2 := am_ hi572_2; have HC572_2 := am_ hl572_2; clear hi572_2 hl572_2; obtain ⟨p572, q572⟩ := pt_ x5_1 l1.length; refine de (n := 10) (S := fun w' => w'.cell? (ad571.add ((x5_1).toNat * 3)) = some (.string ((ab l0 x5_1).f0)) ∧ w'.cell? ⟨(ad571.add ((x5_1).toNat * 3)).block, (ad571.add ((x5_1).toNat * 3)).off + 1, none⟩ = some (.string ((ab l0 x5_1).f1)) ∧ w'.cell? ⟨(ad571.add ((x5_1).toNat * 3)).block, (ad571.add ((x5_1).toNat * 3)).off + 2, none⟩ = some (.slice A571_2 ((ab l0 x5_1).f2).length c571_2) ∧ w'.cell? (ad572.add ((x5_1).toNat * 3)) = some (.string ((ab l1 x5_1).f0)) ∧ w'.cell? ⟨(ad572.add ((x5_1).toNat * 3)).block, (ad572.add ((x5_1).toNat * 3)).off + 1, none⟩ = some (.string ((ab l1 x5_1).f1)) ∧ w'.cell? ⟨(ad572.add ((x5_1).toNat * 3)).block, (ad572.add ((x5_1).toNat * 3)).off + 2, none⟩ = some (.slice A572_2 ((ab l1 x5_1).f2).length c572_2)) (ds := []) (bm_ 10 0) cn rfl rfl ⟨(cc_ HB hw571_0), (cc_ HB hw571_1), (cc_ HB hw571_2), (cc_ HB hw572_0), (cc_ HB hw572_1), (cc_ HB hw572_2)⟩ (fun hHeld => ?_); refine bM aH.tab6 aH.bits6 (fun HT_ HW_ => ?_); generalize wr.drew = w11 at HB HR571_2 HR572_2 hx571_0 hx571_1 hx571_2 hx572_0 hx572_1 hx572_2 hHeld ⊢; refine pv_ 0 17 ?_; refine pv_ 1 18 ?_; refine pv_ 2 19 ?_; refine pv_ 4 21 ?_; refine pv_ 5 22 ?_; refine pv_ 6 23 ?_; refine tv_ 3 20 ?_; refine tv_ 7 24 ?_; refine ov_ 8 25 (fun K hK => ?_); refine oB_ Tryz.func123 (dP.calls k1 ((ab l0 x5_1).f0) ((ab l0 x5_1).f1) _ _ ((ab l0 x5_1).f2) ((ab l1 x5_1).f0) ((ab l1 x5_1).f1) _ _ ((ab l1 x5_1).f2) t573 _ (kc_ HR571_2 HB) HC571_2.out (kc_ HR572_2 HB) HC572_2.out A7.out) ?_; intro w12 hb; replace HB := bs_ HB hb; (try clear hb)
     refine hK.out _ _ ⟨(cc_ HB hw571_0), (cc_ HB hw571_1), (cc_ HB hw571_2), (cc_ HB hw572_0), (cc_ HB hw572_1), (cc_ HB hw572_2)⟩ (fun hHeld => ?_); clear hK K; refine nm_ ?_; refine pv_ 9 26 ?_; refine dn_ HT_ ?_; have H := HC_.out; clear HC_; cases t573
     ·replace H := hf_ H; obtain rfl := si_ H; try go_wp2
      go_ret
      exact ⟨u0_, bw_ HB⟩
     ·replace H := ht_ H; have H' := am_ H; clear H; try go_wp2
      go_roundg k1
      case measure => have := HK1.out; omega
      case rel => exact ⟨(wrap64 (x5_1 + 1)), u1_, H', ⟨dk⟩, ⟨bw_ HB⟩⟩
    ·rw [if_neg c4] at H; have c4b0 := decide_eq_false c4; clear c4; obtain rfl := si_ H; go_wp2; go_ret
     exact ⟨u0_, bw_ HB⟩
 ·rw [if_neg c3] at H; have c3b0 := cT c3; have c3b1 := cV c3; have c3b2 : (l0.length == l1.length) = false := by first | simpa using c3 | (simp at c3 ⊢; omega)
  obtain rfl := si_ H; go_enter Tryz.func72, Tryz.ntmps72
  go_wp2; go_ret
  exact ⟨u0_, bw_ HB⟩
def dR.f (k : Nat) (l0_0 : List (S92)) (l0_1 : List (S46)) (l0_2 : List (S76)) (a0_3 : Int) (l1_0 : List (S92)) (l1_1 : List (S46)) (l1_2 : List (S76)) (a1_3 : Int) : Option (Bool) := (aC.f k l0_0 l1_0).bind fun t576 => (if t576 = true then ((bb.f k l0_1 l1_1).bind fun t577 => (if t577 = true then ((aH.f k l0_2 l1_2).bind fun t578 => (if t578 = true then (if a0_3 = a1_3 then (some true) else (some false)) else (some false))) else (some false))) else (some false))
theorem dR.calls (k : Nat) (A0_0 : Option Addr) (c0_0 : Nat) (l0_0 : List (S92)) (A0_1 : Option Addr) (c0_1 : Nat) (l0_1 : List (S46)) (A0_2 : Option Addr) (c0_2 : Nat) (l0_2 : List (S76)) (a0_3 : Int) (A1_0 : Option Addr) (c1_0 : Nat) (l1_0 : List (S92)) (A1_1 : Option Addr) (c1_1 : Nat) (l1_1 : List (S46)) (A1_2 : Option Addr) (c1_2 : Nat) (l1_2 : List (S76)) (a1_3 : Int) (r : Bool) (w : World) (hr0_0 : Kd.C k92 w A0_0 l0_0.length l0_0) (hc0_0 : l0_0.length ≤ c0_0) (hr0_1 : Kd.C k46 w A0_1 l0_1.length l0_1) (hc0_1 : l0_1.length ≤ c0_1) (hr0_2 : Kd.C k76 w A0_2 l0_2.length l0_2) (hc0_2 : l0_2.length ≤ c0_2) (hr1_0 : Kd.C k92 w A1_0 l1_0.length l1_0) (hc1_0 : l1_0.length ≤ c1_0) (hr1_1 : Kd.C k46 w A1_1 l1_1.length l1_1) (hc1_1 : l1_1.length ≤ c1_1) (hr1_2 : Kd.C k76 w A1_2 l1_2.length l1_2) (hc1_2 : l1_2.length ≤ c1_2) (h : dR.f k l0_0 l0_1 l0_2 a0_3 l1_0 l1_1 l1_2 a1_3 = some r) :
  Calls Tryz.prog 26 #[.agg #[.slice A0_0 l0_0.length c0_0, .slice A0_1 l0_1.length c0_1, .slice A0_2 l0_2.length c0_2, .int .i64 a0_3], .agg #[.slice A1_0 l1_0.length c1_0, .slice A1_1 l1_1.length c1_1, .slice A1_2 l1_2.length c1_2, .int .i64 a1_3]] w fun e w' => e = .returned (.bool r) ∧ Below w.heap.size w w' := by
 have hu27 := Tryz.underlying27; have HR0_0 := am_ hr0_0; have HC0_0 := am_ hc0_0; clear hr0_0 hc0_0; have HR0_1 := am_ hr0_1; have HC0_1 := am_ hc0_1; clear hr0_1 hc0_1; have HR0_2 := am_ hr0_2; have HC0_2 := am_ hc0_2; clear hr0_2 hc0_2; have HR1_0 := am_ hr1_0; have HC1_0 := am_ hc1_0; clear hr1_0 hc1_0; have HR1_1 := am_ hr1_1; have HC1_1 := am_ hc1_1; clear hr1_1 hc1_1; have HR1_2 := am_ hr1_2; have HC1_2 := am_ hc1_2; clear hr1_2 hc1_2; have HB := am_ (Below.refl w.heap.size w); have H := h; clear h; unfold dR.f at H
 obtain ⟨t576, A3, H⟩ := bi_ H; cases t576
 ·replace H := hf_ H; obtain rfl := si_ H; go_enter Tryz.func26, Tryz.ntmps26
  go_wp2_with (first | ((with_reducible refine gt_ 2 ?_); refine bx_ 2 #[.slice A0_0 l0_0.length c0_0, .slice A0_1 l0_1.length c0_1, .slice A0_2 l0_2.length c0_2, .int .i64 a0_3] 27 ?_; intro gb574 hg w59 hbox hb; have BK574 := am_ (hbox); have GE574 := gw_ HB hg; replace HB := bs_ HB hb; clear hb hbox hg) | ((with_reducible refine gt_ 3 ?_); refine bx_ 3 #[.slice A1_0 l1_0.length c1_0, .slice A1_1 l1_1.length c1_1, .slice A1_2 l1_2.length c1_2, .int .i64 a1_3] 27 ?_; intro gb575 hg w60 hbox hb; have BK575 := am_ (hbox); have GE575 := gw_ HB hg; replace HB := bs_ HB hb; have NB574_575 := nl_ BK574 hg; have NB575_574 := ng_ BK574 hg; replace BK574 := bb_ BK574 hb; clear hb hbox hg; have hnb61 := NB574_575.out; have hnc61 := NB575_574.out; obtain ⟨hcz62_0, hcz62_1, hcz62_2, hcz62_3, hfz62_0, hfz62_1, hfz62_2, hfz62_3⟩ := ch BK574.out; obtain ⟨hcz63_0, hcz63_1, hcz63_2, hcz63_3, hfz63_0, hfz63_1, hfz63_2, hfz63_3⟩ := ch BK575.out) | ((with_reducible refine gt_ 9 ?_); refine gB_ 9 Tryz.func70 (aC.calls k _ _ l0_0 _ _ l1_0 false _ (kc_ HR0_0 HB) HC0_0.out (kc_ HR1_0 HB) HC1_0.out A3.out) ?_; intro w64 hb; replace HB := bs_ HB hb; (try clear hb)))
  go_ret
  exact ⟨u0_, bw_ HB⟩
 ·replace H := ht_ H; obtain ⟨t577, A5, H⟩ := bi_ H; cases t577
  ·replace H := hf_ H; obtain rfl := si_ H; go_enter Tryz.func26, Tryz.ntmps26
   go_wp2_with (first | ((with_reducible refine gt_ 2 ?_); refine bx_ 2 #[.slice A0_0 l0_0.length c0_0, .slice A0_1 l0_1.length c0_1, .slice A0_2 l0_2.length c0_2, .int .i64 a0_3] 27 ?_; intro gb574 hg w50 hbox hb; have BK574 := am_ (hbox); have GE574 := gw_ HB hg; replace HB := bs_ HB hb; clear hb hbox hg) | ((with_reducible refine gt_ 3 ?_); refine bx_ 3 #[.slice A1_0 l1_0.length c1_0, .slice A1_1 l1_1.length c1_1, .slice A1_2 l1_2.length c1_2, .int .i64 a1_3] 27 ?_; intro gb575 hg w51 hbox hb; have BK575 := am_ (hbox); have GE575 := gw_ HB hg; replace HB := bs_ HB hb; have NB574_575 := nl_ BK574 hg; have NB575_574 := ng_ BK574 hg; replace BK574 := bb_ BK574 hb; clear hb hbox hg; have hnb52 := NB574_575.out; have hnc52 := NB575_574.out; obtain ⟨hcz53_0, hcz53_1, hcz53_2, hcz53_3, hfz53_0, hfz53_1, hfz53_2, hfz53_3⟩ := ch BK574.out; obtain ⟨hcz54_0, hcz54_1, hcz54_2, hcz54_3, hfz54_0, hfz54_1, hfz54_2, hfz54_3⟩ := ch BK575.out) | ((with_reducible refine gt_ 9 ?_); refine gB_ 9 Tryz.func70 (aC.calls k _ _ l0_0 _ _ l1_0 true _ (kc_ HR0_0 HB) HC0_0.out (kc_ HR1_0 HB) HC1_0.out A3.out) ?_; intro w55 hb; replace BK574 := bb_ BK574 hb; replace BK575 := bb_ BK575 hb; replace HB := bs_ HB hb; (try clear hb); obtain ⟨hcz56_0, hcz56_1, hcz56_2, hcz56_3, hfz56_0, hfz56_1, hfz56_2, hfz56_3⟩ := ch BK574.out; obtain ⟨hcz57_0, hcz57_1, hcz57_2, hcz57_3, hfz57_0, hfz57_1, hfz57_2, hfz57_3⟩ := ch BK575.out) | ((with_reducible refine gt_ 15 ?_); refine gB_ 15 Tryz.func71 (bb.calls k _ _ l0_1 _ _ l1_1 false _ (kc_ HR0_1 HB) HC0_1.out (kc_ HR1_1 HB) HC1_1.out A5.out) ?_; intro w58 hb; replace HB := bs_ HB hb; (try clear hb)))
   go_ret
   exact ⟨u0_, bw_ HB⟩
  ·replace H := ht_ H; obtain ⟨t578, A7, H⟩ := bi_ H; cases t578
   ·replace H := hf_ H; obtain rfl := si_ H; go_enter Tryz.func26, Tryz.ntmps26
    go_wp2_with (first | ((with_reducible refine gt_ 2 ?_); refine bx_ 2 #[.slice A0_0 l0_0.length c0_0, .slice A0_1 l0_1.length c0_1, .slice A0_2 l0_2.length c0_2, .int .i64 a0_3] 27 ?_; intro gb574 hg w38 hbox hb; have BK574 := am_ (hbox); have GE574 := gw_ HB hg; replace HB := bs_ HB hb; clear hb hbox hg) | ((with_reducible refine gt_ 3 ?_); refine bx_ 3 #[.slice A1_0 l1_0.length c1_0, .slice A1_1 l1_1.length c1_1, .slice A1_2 l1_2.length c1_2, .int .i64 a1_3] 27 ?_; intro gb575 hg w39 hbox hb; have BK575 := am_ (hbox); have GE575 := gw_ HB hg; replace HB := bs_ HB hb; have NB574_575 := nl_ BK574 hg; have NB575_574 := ng_ BK574 hg; replace BK574 := bb_ BK574 hb; clear hb hbox hg; have hnb40 := NB574_575.out; have hnc40 := NB575_574.out; obtain ⟨hcz41_0, hcz41_1, hcz41_2, hcz41_3, hfz41_0, hfz41_1, hfz41_2, hfz41_3⟩ := ch BK574.out; obtain ⟨hcz42_0, hcz42_1, hcz42_2, hcz42_3, hfz42_0, hfz42_1, hfz42_2, hfz42_3⟩ := ch BK575.out) | ((with_reducible refine gt_ 9 ?_); refine gB_ 9 Tryz.func70 (aC.calls k _ _ l0_0 _ _ l1_0 true _ (kc_ HR0_0 HB) HC0_0.out (kc_ HR1_0 HB) HC1_0.out A3.out) ?_; intro w43 hb; replace BK574 := bb_ BK574 hb; replace BK575 := bb_ BK575 hb; replace HB := bs_ HB hb; (try clear hb); obtain ⟨hcz44_0, hcz44_1, hcz44_2, hcz44_3, hfz44_0, hfz44_1, hfz44_2, hfz44_3⟩ := ch BK574.out; obtain ⟨hcz45_0, hcz45_1, hcz45_2, hcz45_3, hfz45_0, hfz45_1, hfz45_2, hfz45_3⟩ := ch BK575.out) | ((with_reducible refine gt_ 15 ?_); refine gB_ 15 Tryz.func71 (bb.calls k _ _ l0_1 _ _ l1_1 true _ (kc_ HR0_1 HB) HC0_1.out (kc_ HR1_1 HB) HC1_1.out A5.out) ?_; intro w46 hb; replace BK574 := bb_ BK574 hb; replace BK575 := bb_ BK575 hb; replace HB := bs_ HB hb; (try clear hb); obtain ⟨hcz47_0, hcz47_1, hcz47_2, hcz47_3, hfz47_0, hfz47_1, hfz47_2, hfz47_3⟩ := ch BK574.out; obtain ⟨hcz48_0, hcz48_1, hcz48_2, hcz48_3, hfz48_0, hfz48_1, hfz48_2, hfz48_3⟩ := ch BK575.out) | ((with_reducible refine gt_ 21 ?_); refine gB_ 21 Tryz.func72 (aH.calls k _ _ l0_2 _ _ l1_2 false _ (kc_ HR0_2 HB) HC0_2.out (kc_ HR1_2 HB) HC1_2.out A7.out) ?_; intro w49 hb; replace HB := bs_ HB hb; (try clear hb)))
    go_ret
    exact ⟨u0_, bw_ HB⟩
   ·replace H := ht_ H; by_cases c9 : a0_3 = a1_3
    ·rw [if_pos c9] at H; have c9b0 := cU c9; have c9b1 := cS c9; clear c9; obtain rfl := si_ H; go_enter Tryz.func26, Tryz.ntmps26
     go_wp2_with (first | ((with_reducible refine gt_ 2 ?_); refine bx_ 2 #[.slice A0_0 l0_0.length c0_0, .slice A0_1 l0_1.length c0_1, .slice A0_2 l0_2.length c0_2, .int .i64 a0_3] 27 ?_; intro gb574 hg w10 hbox hb; have BK574 := am_ (hbox); have GE574 := gw_ HB hg; replace HB := bs_ HB hb; clear hb hbox hg) | ((with_reducible refine gt_ 3 ?_); refine bx_ 3 #[.slice A1_0 l1_0.length c1_0, .slice A1_1 l1_1.length c1_1, .slice A1_2 l1_2.length c1_2, .int .i64 a1_3] 27 ?_; intro gb575 hg w11 hbox hb; have BK575 := am_ (hbox); have GE575 := gw_ HB hg; replace HB := bs_ HB hb; have NB574_575 := nl_ BK574 hg; have NB575_574 := ng_ BK574 hg; replace BK574 := bb_ BK574 hb; clear hb hbox hg; have hnb12 := NB574_575.out; have hnc12 := NB575_574.out; obtain ⟨hcz13_0, hcz13_1, hcz13_2, hcz13_3, hfz13_0, hfz13_1, hfz13_2, hfz13_3⟩ := ch BK574.out; obtain ⟨hcz14_0, hcz14_1, hcz14_2, hcz14_3, hfz14_0, hfz14_1, hfz14_2, hfz14_3⟩ := ch BK575.out) | ((with_reducible refine gt_ 9 ?_); refine gB_ 9 Tryz.func70 (aC.calls k _ _ l0_0 _ _ l1_0 true _ (kc_ HR0_0 HB) HC0_0.out (kc_ HR1_0 HB) HC1_0.out A3.out) ?_; intro w15 hb; replace BK574 := bb_ BK574 hb; replace BK575 := bb_ BK575 hb; replace HB := bs_ HB hb; (try clear hb); obtain ⟨hcz16_0, hcz16_1, hcz16_2, hcz16_3, hfz16_0, hfz16_1, hfz16_2, hfz16_3⟩ := ch BK574.out; obtain ⟨hcz17_0, hcz17_1, hcz17_2, hcz17_3, hfz17_0, hfz17_1, hfz17_2, hfz17_3⟩ := ch BK575.out) | ((with_reducible refine gt_ 15 ?_); refine gB_ 15 Tryz.func71 (bb.calls k _ _ l0_1 _ _ l1_1 true _ (kc_ HR0_1 HB) HC0_1.out (kc_ HR1_1 HB) HC1_1.out A5.out) ?_; intro w18 hb; replace BK574 := bb_ BK574 hb; replace BK575 := bb_ BK575 hb; replace HB := bs_ HB hb; (try clear hb); obtain ⟨hcz19_0, hcz19_1, hcz19_2, hcz19_3, hfz19_0, hfz19_1, hfz19_2, hfz19_3⟩ := ch BK574.out; obtain ⟨hcz20_0, hcz20_1, hcz20_2, hcz20_3, hfz20_0, hfz20_1, hfz20_2, hfz20_3⟩ := ch BK575.out) | ((with_reducible refine gt_ 21 ?_); refine gB_ 21 Tryz.func72 (aH.calls k _ _ l0_2 _ _ l1_2 true _ (kc_ HR0_2 HB) HC0_2.out (kc_ HR1_2 HB) HC1_2.out A7.out) ?_; intro w21 hb; replace BK574 := bb_ BK574 hb; replace BK575 := bb_ BK575 hb; replace HB := bs_ HB hb; (try clear hb); obtain ⟨hcz22_0, hcz22_1, hcz22_2, hcz22_3, hfz22_0, hfz22_1, hfz22_2, hfz22_3⟩ := ch BK574.out; obtain ⟨hcz23_0, hcz23_1, hcz23_2, hcz23_3, hfz23_0, hfz23_1, hfz23_2, hfz23_3⟩ := ch BK575.out))
     go_ret
     exact ⟨u0_, bw_ HB⟩
    ·rw [if_neg c9] at H; have c9b0 := cT c9; have c9b1 := cV c9; obtain rfl := si_ H; go_enter Tryz.func26, Tryz.ntmps26
     go_wp2_with (first | ((with_reducible refine gt_ 2 ?_); refine bx_ 2 #[.slice A0_0 l0_0.length c0_0, .slice A0_1 l0_1.length c0_1, .slice A0_2 l0_2.length c0_2, .int .i64 a0_3] 27 ?_; intro gb574 hg w24 hbox hb; have BK574 := am_ (hbox); have GE574 := gw_ HB hg; replace HB := bs_ HB hb; clear hb hbox hg) | ((with_reducible refine gt_ 3 ?_); refine bx_ 3 #[.slice A1_0 l1_0.length c1_0, .slice A1_1 l1_1.length c1_1, .slice A1_2 l1_2.length c1_2, .int .i64 a1_3] 27 ?_; intro gb575 hg w25 hbox hb; have BK575 := am_ (hbox); have GE575 := gw_ HB hg; replace HB := bs_ HB hb; have NB574_575 := nl_ BK574 hg; have NB575_574 := ng_ BK574 hg; replace BK574 := bb_ BK574 hb; clear hb hbox hg; have hnb26 := NB574_575.out; have hnc26 := NB575_574.out; obtain ⟨hcz27_0, hcz27_1, hcz27_2, hcz27_3, hfz27_0, hfz27_1, hfz27_2, hfz27_3⟩ := ch BK574.out; obtain ⟨hcz28_0, hcz28_1, hcz28_2, hcz28_3, hfz28_0, hfz28_1, hfz28_2, hfz28_3⟩ := ch BK575.out) | ((with_reducible refine gt_ 9 ?_); refine gB_ 9 Tryz.func70 (aC.calls k _ _ l0_0 _ _ l1_0 true _ (kc_ HR0_0 HB) HC0_0.out (kc_ HR1_0 HB) HC1_0.out A3.out) ?_; intro w29 hb; replace BK574 := bb_ BK574 hb; replace BK575 := bb_ BK575 hb; replace HB := bs_ HB hb; (try clear hb); obtain ⟨hcz30_0, hcz30_1, hcz30_2, hcz30_3, hfz30_0, hfz30_1, hfz30_2, hfz30_3⟩ := ch BK574.out; obtain ⟨hcz31_0, hcz31_1, hcz31_2, hcz31_3, hfz31_0, hfz31_1, hfz31_2, hfz31_3⟩ := ch BK575.out) | ((with_reducible refine gt_ 15 ?_); refine gB_ 15 Tryz.func71 (bb.calls k _ _ l0_1 _ _ l1_1 true _ (kc_ HR0_1 HB) HC0_1.out (kc_ HR1_1 HB) HC1_1.out A5.out) ?_; intro w32 hb; replace BK574 := bb_ BK574 hb; replace BK575 := bb_ BK575 hb; replace HB := bs_ HB hb; (try clear hb); obtain ⟨hcz33_0, hcz33_1, hcz33_2, hcz33_3, hfz33_0, hfz33_1, hfz33_2, hfz33_3⟩ := ch BK574.out; obtain ⟨hcz34_0, hcz34_1, hcz34_2, hcz34_3, hfz34_0, hfz34_1, hfz34_2, hfz34_3⟩ := ch BK575.out) | ((with_reducible refine gt_ 21 ?_); refine gB_ 21 Tryz.func72 (aH.calls k _ _ l0_2 _ _ l1_2 true _ (kc_ HR0_2 HB) HC0_2.out (kc_ HR1_2 HB) HC1_2.out A7.out) ?_; intro w35 hb; replace BK574 := bb_ BK574 hb; replace BK575 := bb_ BK575 hb; replace HB := bs_ HB hb; (try clear hb); obtain ⟨hcz36_0, hcz36_1, hcz36_2, hcz36_3, hfz36_0, hfz36_1, hfz36_2, hfz36_3⟩ := ch BK574.out; obtain ⟨hcz37_0, hcz37_1, hcz37_2, hcz37_3, hfz37_0, hfz37_1, hfz37_2, hfz37_3⟩ := ch BK575.out))
     go_ret
     exact ⟨u0_, bw_ HB⟩
def aE.l0 : Nat → Int → ByteArray → Option (ByteArray)
 | 0, _, _ => none
 | k + 1, x0, x3 => if x0 > 0 then ((some (([(wrap64 (48 + (Int.tmod x0 10))) % 256] : List Int) : List Int)).bind fun y579 => (if (strOfNums y579).size + x3.size ≤ 9223372036854775807 then (aE.l0 k (wrap64 (Int.tdiv x0 10)) ((strOfNums y579) ++ x3)) else (none))) else (if 1 + x3.size ≤ 9223372036854775807 then (some ((⟨#[109]⟩ : ByteArray) ++ x3)) else (none))
def aE.f (k : Nat) (a0 : Int) : Option (ByteArray) := if a0 ≤ 0 then (some (⟨#[109, 48]⟩ : ByteArray)) else (aE.l0 k a0 (⟨#[]⟩ : ByteArray))
theorem aE.calls (k : Nat) (a0 : Int) (r : ByteArray) (w : World) (h : aE.f k a0 = some r) :
  Calls Tryz.prog 83 #[.int .i64 a0] w fun e w' => e = .returned (.string r) ∧ Below w.heap.size w w' := by
 have HB := am_ (Below.refl w.heap.size w); have H := h; clear h; unfold aE.f at H
 by_cases c2 : a0 ≤ 0
 ·rw [if_pos c2] at H; have c2b0 := decide_eq_true c2; clear c2; obtain rfl := si_ H; go_enter Tryz.func83, Tryz.ntmps83
  go_wp2; go_ret
  exact ⟨u0_, bw_ HB⟩
 ·rw [if_neg c2] at H; have c2b0 := decide_eq_false c2; clear c2; have H' := am_ H; clear H; go_enter Tryz.func83, Tryz.ntmps83
  go_wp2; go_loopg [0, 3] k (fun kq v0 v3 w' => ∃ (x0_1 : Int) (x3_1 : ByteArray), v0 = .int .i64 x0_1 ∧ v3 = .string x3_1 ∧ aa (aE.l0 kq x0_1 x3_1 = some r) ∧ aa (kq ≤ k) ∧ aa (Below w.heap.size w w'))
  case atStart => exact ⟨(a0), ((⟨#[]⟩ : ByteArray)), u1_, u1_, H', ⟨Nat.le_refl _⟩, ⟨bw_ HB⟩⟩
  case round =>
   clear H'; try clear c2
   try clear c2b0
   obtain ⟨x0_1, x3_1, rfl, rfl, HA, HK1, HB⟩ := hrel; cases gk with
   | zero => exact absurd HA.out (by simp [aE.l0])
   | succ k1 =>
    have H := HA.out; clear HA; simp only [aE.l0] at H; by_cases c3 : x0_1 > 0
    ·rw [if_pos c3] at H; have c3b0 : decide (0 < x0_1) = true := decide_eq_true c3; clear c3; generalize hy579 : ((([(wrap64 (48 + (Int.tmod x0_1 10))) % 256] : List Int)) : List Int) = y579 at H; have Ny579 := am_ hy579.symm; clear hy579; obtain ⟨c4, H⟩ := gn_ H; have c4b0 := eq_true c4; have c4b1 := decide_eq_true c4; try have c4b2 : (9223372036854775807 < (strOfNums y579).size + x3_1.size) = False := eq_false (Nat.not_lt.2 c4)
     have H' := am_ H; clear H; go_wp2_with (first | ((with_reducible refine aA (N := 12) rfl ?_); refine Kd.R_lit (Kd.int .u8) _ 5 ?hg (N := 12) ?hd (xs := ([(wrap64 (48 + (Int.tmod x0_1 10))) % 256] : List Int)) (inner := [.int .u8 ((wrap64 (48 + (Int.tmod x0_1 10))) % 256)]) (ok := fun _ => True) (okp := fun _ => True) ?hr ?hp (fun _ hk => hk) trivial (Below.refl _ _) (Nat.le_refl _) cw ?_; (case hd => rfl); (case hg => rfl); (case hr => exact u6_); (case hp => exact (Reps.one (show Kd.M (Kd.int .u8) _ _ _ ((wrap64 (48 + (Int.tmod x0_1 10))) % 256) [.int .u8 ((wrap64 (48 + (Int.tmod x0_1 10))) % 256)] from rfl) (Reps.none _ _))); intro v580 w5 ho6 hb hg_ hnew_; clear hg_ hnew_; (first | rw [← Ny579.out] at ho6 | (simp only [Int.reduceToNat] at ho6; rw [← Ny579.out] at ho6)); have HO581 := am_ (Kd.R_lower ho6 (ar (bw_ HB))); replace HB := bs_ HB hb; clear hb ho6; have hcv7 := ll (P := Tryz.prog) Tryz.underlying22 Tryz.underlying5 Tryz.underlying9 (Kd.own_of_R HO581.out)))
     go_roundg k1
     case measure => have := HK1.out; omega
     case rel => exact ⟨(wrap64 (Int.tdiv x0_1 10)), ((strOfNums y579) ++ x3_1), u1_, u1_, H', ⟨dk⟩, ⟨bw_ HB⟩⟩
    ·rw [if_neg c3] at H; have c3b0 : decide (0 < x0_1) = false := decide_eq_false c3; clear c3; obtain ⟨c8, H⟩ := gn_ H; have c8b0 := eq_true c8; have c8b1 := decide_eq_true c8; try have c8b2 : (9223372036854775807 < 1 + x3_1.size) = False := eq_false (Nat.not_lt.2 c8)
     obtain rfl := si_ H; go_wp2; go_ret
     exact ⟨u0_, bw_ HB⟩
section
open Go
def Like (v u : Value) : Prop := v = u ∨ (∃ k x y, v = .int k x ∧ u = .int k y) ∨ ∃ s z, v = .string s ∧ u = .string z
structure Kp (P : Nat → Prop) (w W : World) : Prop where
 le : w.heap.size ≤ W.heap.size
 like : ∀ (g : Nat) (cs : Array Value) (t : TypeId), w.heap[g]? = some (Obj.cells cs t (0, 0)) → ∃ ds : Array Value, W.heap[g]? = some (Obj.cells ds t (0, 0)) ∧ ∀ (j : Nat) (v : Value), cs[j]? = some v → ∃ u : Value, ds[j]? = some u ∧ Like v u
 kept : Kept w W P
theorem Like.refl (v : Value) : Like v v := .inl rfl
theorem Like.trans {a b c : Value} (h : Like a b) (k : Like b c) : Like a c := by
 rcases h with rfl | ⟨q, x, y, rfl, rfl⟩ | ⟨s, z, rfl, rfl⟩
 ·exact k
 ·rcases k with rfl | ⟨_, _, y, e, rfl⟩ | ⟨_, _, e, _⟩
  ·exact .inr (.inl ⟨q, x, y, rfl, rfl⟩)
  ·cases e; exact .inr (.inl ⟨_, x, y, rfl, rfl⟩)
  ·cases e
 ·rcases k with rfl | ⟨_, _, _, e, _⟩ | ⟨_, z', e, rfl⟩
  ·exact .inr (.inr ⟨s, z, rfl, rfl⟩)
  ·cases e
  ·exact .inr (.inr ⟨s, z', rfl, rfl⟩)
section
variable {P : Nat → Prop}
theorem Kp.refl (w : World) : Kp P w w := ⟨Nat.le_refl _, fun g cs t h => ⟨cs, h, fun j v hv => ⟨v, hv, .inl rfl⟩⟩, Kept.refl w P⟩
theorem Kp.trans {w W X : World} (h : Kp P w W) (k : Kp P W X) : Kp P w X := by
 refine ⟨Nat.le_trans h.le k.le, fun g cs t hc => ?_, h.kept.then_ k.kept fun _ hk => .inl hk⟩; obtain ⟨ds, hd, hl⟩ := h.like g cs t hc; obtain ⟨es, he, hm⟩ := k.like g ds t hd; refine ⟨es, he, fun j v hv => ?_⟩; obtain ⟨u, hu, a⟩ := hl j v hv; obtain ⟨z, hz, b⟩ := hm j u hu; exact ⟨z, hz, a.trans b⟩
theorem Kp.below {w W : World} (h : Below w.heap.size w W) : Kp P w W :=
 ⟨h.size, fun g cs t hc => ⟨cs, a7 hc h, fun j v hv => ⟨v, hv, .inl rfl⟩⟩, Kept.of_below h P⟩
theorem Kp.drewN {w W : World} (h : Kp P w W) (n : Nat) : Kp P w (W.drewN n) := h.trans (Kp.below (aw (Below.refl _ _) n))
theorem Kp.set {w : World} {g i t : Nat} {cs : Array Value} {v u : Value} (hb : w.heap[g]? = some (.cells cs t (0, 0))) (hv : cs[i]? = some v) (hl : Like v u) (hP : P g) : Kp P w (w.setCell ⟨g, i, none⟩ u) := by
 have hi : i < cs.size := (Array.getElem?_eq_some_iff.1 hv).1; refine ⟨by simp [World.setCell], fun g' cs' t' hc => ?_, (Kept.refl w P).setCell (.inl hP) u⟩; by_cases hg : g' = g
 ·subst hg; rw [hb] at hc; obtain ⟨rfl, rfl⟩ : cs = cs' ∧ t = t' := by simpa using hc
  refine ⟨_, hY hb i u rfl, fun j x hx => ?_⟩; by_cases hj : j = i
  ·subst hj; rw [hv] at hx; obtain rfl := Option.some.inj hx; exact ⟨u, by simp [Array.getElem?_setIfInBounds, hi], hl⟩
  ·exact ⟨x, by rw [Array.getElem?_setIfInBounds_ne (Ne.symm hj)]; exact hx, .inl rfl⟩
 ·exact ⟨cs', (Below.heap_setCell w ⟨g, i, none⟩ u g' hg).trans hc, fun j x hx => ⟨x, hx, .inl rfl⟩⟩
def Flat (P : Nat → Prop) (w : World) (A : Option Addr) (m : Nat) (Q : Nat → Value → Prop) : Prop :=
 0 < m → ∃ (g off : Nat) (cs : Array Value) (t : TypeId), A = some ⟨g, off, none⟩ ∧ P g ∧ w.heap[g]? = some (Obj.cells cs t (0, 0)) ∧ ∀ j, j < m → ∃ v, cs[off + j]? = some v ∧ Q j v
theorem Flat.kp {w W : World} {A : Option Addr} {m : Nat} {Q Q' : Nat → Value → Prop} (h : Flat P w A m Q) (k : Kp P w W) (hQ : ∀ j v u, Q j v → Like v u → Q' j u) : Flat P W A m Q' := fun hm => by
 obtain ⟨g, off, cs, t, e, hp, hb, hc⟩ := h hm; obtain ⟨ds, hd, hl⟩ := k.like g cs t hb; refine ⟨g, off, ds, t, e, hp, hd, fun j hj => ?_⟩; obtain ⟨v, hv, q⟩ := hc j hj; obtain ⟨u, hu, l⟩ := hl _ v hv; exact ⟨u, hu, hQ j v u q l⟩
def isI (_ : Nat) (v : Value) : Prop := ∃ x, v = .int .i64 x
def isS (_ : Nat) (v : Value) : Prop := ∃ s, v = .string s
theorem isI.like {j : Nat} {v u : Value} (h : isI j v) (l : Like v u) : isI j u := by
 obtain ⟨x, rfl⟩ := h; rcases l with rfl | ⟨_, _, y, e, rfl⟩ | ⟨_, _, e, _⟩
 ·exact ⟨x, rfl⟩
 ·cases e; exact ⟨y, rfl⟩
 ·cases e
theorem isS.like {j : Nat} {v u : Value} (h : isS j v) (l : Like v u) : isS j u := by
 obtain ⟨x, rfl⟩ := h; rcases l with rfl | ⟨_, _, _, e, _⟩ | ⟨_, z, e, rfl⟩
 ·exact ⟨x, rfl⟩
 ·cases e
 ·exact ⟨z, rfl⟩
def j9 : Nat → Int → Int
 | 0, a => a
 | n + 1, a => j9 n (wrap64 (a + 1))
theorem o8 (A : Option Addr) (n c : Nat) (a : Int) (w0 w : World) (hB : Below w0.heap.size w0 w) (hP : ∀ g, P g → w0.heap.size ≤ g) (hS : Flat P w A n isI) (hn : n ≤ 9223372036854775807) :
  Calls Tryz.prog 81 #[.slice A n c, .int .i64 a] w fun e w' => e = .returned (.int .i64 (j9 n a)) ∧ Below w0.heap.size w0 w' ∧ Kp P w w' := by
 have HS := am_ hS; have HB := am_ hB; have HP := am_ hP; have HX := am_ (Kp.refl (P := P) w); clear hS hB hP; go_enter Tryz.func81, Tryz.ntmps81
 go_wp2; go_loopw [1, 5] (fun v1 v5 wr => ∃ (i : Nat) (x : Int), v1 = .int .i64 x ∧ v5 = .int .i64 (i : Int) ∧ i ≤ n ∧ aa (j9 n a = j9 (n - i) x) ∧ aa (Below w0.heap.size w0 wr) ∧ aa (Kp P w wr)) (fun _ v _ => match v with | .int _ i => n - i.toNat | _ => 0)
 case atStart => exact ⟨0, a, rfl, rfl, Nat.zero_le _, ⟨rfl⟩, HB, HX⟩
 case round =>
  clear HB HX; obtain ⟨i, x, rfl, rfl, hi, HE, HB, HX⟩ := hrel; rcases Nat.lt_or_ge i n with hlt | hge
  ·obtain ⟨g, off, cs, t, rfl, hp, hb, hc⟩ := HS.out.kp HX.out (fun _ _ _ => isI.like) u7_; obtain ⟨v, hv, y, rfl⟩ := hc i hlt; have hcell : wr.cell? ⟨g, off + i, none⟩ = some (.int .i64 y) := (bg hb _).trans hv; have hfz := cW hb (off + i); have p1 : ((i : Int) < (n : Int)) = True := eq_true u7_; have p0 : (0 ≤ (i : Int)) = True := eq_true u7_; have HC := am_ hb; have HV := am_ hv; have HPg := am_ hp; clear hb hv hc hp; go_wp2; refine ⟨⟨i + 1, _, rfl, cw, hlt, ⟨by rw [HE.out, show n - i = (n - (i + 1)) + 1 by omega]; rfl⟩, ⟨bo HB.out (HP.out g HPg.out)⟩, ⟨HX.out.trans (Kp.set HC.out HV.out (.inr (.inl ⟨_, _, _, rfl, rfl⟩)) HPg.out)⟩⟩, kc⟩
  ·obtain rfl : i = n := by omega
   have p1 : ((i : Int) < (i : Int)) = False := eq_false u7_; go_wp2; go_ret
   exact ⟨by rw [HE.out, Nat.sub_self]; rfl, HB.out, HX.out⟩
theorem Flat.get {w W : World} {A : Option Addr} {m : Nat} {Q Q' : Nat → Value → Prop} (h : Flat P w A m Q) (k : Kp P w W) (hQ : ∀ j v u, Q j v → Like v u → Q' j u) (j : Nat) (hj : j < m) : ∃ g off v, A = some ⟨g, off, none⟩ ∧ P g ∧ W.cell? ⟨g, off + j, none⟩ = some v ∧ W.frozen? ⟨g, off + j, none⟩ = false ∧ Q' j v ∧ ∀ u, Like v u → Kp P W (W.setCell ⟨g, off + j, none⟩ u) := by
 obtain ⟨g, off, cs, t, e, hp, hb, hc⟩ := h.kp k hQ u7_; obtain ⟨v, hv, q⟩ := hc j hj; exact ⟨g, off, v, e, hp, (bg hb _).trans hv, cW hb _, q, fun u l => Kp.set hb hv l hp⟩
def mkC (k : Nat) : Nat → Int → Option Int
 | 0, a => some a
 | n + 1, a => (aE.f k a).bind fun _ => (aE.f k (wrap64 (a + 1))).bind fun _ => mkC k n (wrap64 (wrap64 (a + 1) + 1))
theorem nJ (k : Nat) (A : Option Addr) (n c : Nat) (a r : Int) (w0 w : World) (hB : Below w0.heap.size w0 w) (hP : ∀ g, P g → w0.heap.size ≤ g) (hS : Flat P w A (n * 2) isS) (hn : n ≤ 9223372036854775807) (hf : mkC k n a = some r) :
  Calls Tryz.prog 78 #[.slice A n c, .int .i64 a] w fun e w' => e = .returned (.int .i64 r) ∧ Below w0.heap.size w0 w' ∧ Kp P w w' := by
 have hu86 := Tryz.underlying86; have HS := am_ hS; have HB := am_ hB; have HP := am_ hP; have HX := am_ (Kp.refl (P := P) w); have H := am_ hf; clear hS hB hP hf; go_enter Tryz.func78, Tryz.ntmps78
 go_wp2; go_loopw [1, 5] (fun v1 v5 wr => ∃ (i : Nat) (x : Int), v1 = .int .i64 x ∧ v5 = .int .i64 (i : Int) ∧ i ≤ n ∧ aa (mkC k (n - i) x = some r) ∧ aa (Below w0.heap.size w0 wr) ∧ aa (Kp P w wr)) (fun _ v _ => match v with | .int _ i => n - i.toNat | _ => 0)
 case atStart => exact ⟨0, a, rfl, rfl, Nat.zero_le _, H, HB, HX⟩
 case round =>
  clear H HB HX; obtain ⟨i, x, rfl, rfl, hi, H, HB, HX⟩ := hrel; rcases Nat.lt_or_ge i n with hlt | hge
  ·have h := H.out; rw [show n - i = (n - (i + 1)) + 1 by omega, mkC] at h; obtain ⟨s1, A1, h⟩ := bi_ h; obtain ⟨s2, A2, h⟩ := bi_ h; have H := am_ h; obtain ⟨g, off, _, rfl, hp, _⟩ := HS.out.get HX.out (fun _ _ _ => isS.like) (i * 2) u7_; have p1 : ((i : Int) < (n : Int)) = True := eq_true u7_; have p0 : (0 ≤ (i : Int)) = True := eq_true u7_; have HPg := am_ hp; clear h hp; go_wp2_with (first | (go_at_call 83; (with_reducible refine (aE.calls k _ _ _ A1.out).mono ?_); rintro e w1 ⟨rfl, hb⟩; replace HX := am_ (HX.out.trans (Kp.below hb)); replace HB := am_ (bD HB.out hb); obtain ⟨_, _, v, e, _, hc1, hz1, ⟨y, rfl⟩, K1⟩ := HS.out.get HX.out (fun _ _ _ => isS.like) (i * 2) u7_; cases e; replace HB := am_ (bo (j := off + i * 2) (v := .string s1) HB.out (HP.out g HPg.out)); replace HX := am_ (HX.out.trans (K1 (.string s1) (.inr (.inr ⟨_, _, rfl, rfl⟩)))); clear hb K1) | (go_at_call 83; (with_reducible refine (aE.calls k _ _ _ A2.out).mono ?_); rintro e w2 ⟨rfl, hb⟩; replace HX := am_ (HX.out.trans (Kp.below hb)); replace HB := am_ (bD HB.out hb); obtain ⟨_, _, v, e, _, hc2, hz2, ⟨z, rfl⟩, K1⟩ := HS.out.get HX.out (fun _ _ _ => isS.like) (i * 2 + 1) u7_; cases e; replace HB := am_ (bo (j := off + (i * 2 + 1)) (v := .string s2) HB.out (HP.out g HPg.out)); replace HX := am_ (HX.out.trans (K1 (.string s2) (.inr (.inr ⟨_, _, rfl, rfl⟩)))); rw [← Nat.add_assoc] at hc2 hz2; clear hb K1))
   exact ⟨⟨i + 1, _, rfl, cw, hlt, H, HB, HX⟩, kc⟩
  ·obtain rfl : i = n := by omega
   have h := H.out; rw [Nat.sub_self, mkC] at h; obtain rfl := si_ h; have p1 : ((i : Int) < (i : Int)) = False := eq_false u7_; clear h H; go_wp2; go_ret
   exact ⟨rfl, HB.out, HX.out⟩
theorem Like.int {k : IntKind} {x y : Int} : Like (.int k x) (.int k y) := .inr (.inl ⟨_, _, _, rfl, rfl⟩)
theorem Like.str {s z : ByteArray} : Like (.string s) (.string z) := .inr (.inr ⟨_, _, rfl, rfl⟩)
def isF (j : Nat) (v : Value) : Prop := if j % 3 = 0 then isS j v else isI j v
theorem isF.like {j : Nat} {v u : Value} (h : isF j v) (l : Like v u) : isF j u := by
 unfold isF at h ⊢
 split at h
 ·exact u80_
 ·rw [if_neg oW]; exact h.like l
def mkF (k : Nat) : Nat → Int → Option Int
 | 0, a => some a
 | n + 1, a => (aE.f k a).bind fun _ => mkF k n (wrap64 (wrap64 (wrap64 (a + 1) + 1) + 1))
theorem np (k : Nat) (A : Option Addr) (n c : Nat) (a r : Int) (w0 w : World) (hB : Below w0.heap.size w0 w) (hP : ∀ g, P g → w0.heap.size ≤ g) (hS : Flat P w A (n * 3) isF) (hn : n ≤ 9223372036854775807) (hf : mkF k n a = some r) :
  Calls Tryz.prog 75 #[.slice A n c, .int .i64 a] w fun e w' => e = .returned (.int .i64 r) ∧ Below w0.heap.size w0 w' ∧ Kp P w w' := by
 have hu92 := Tryz.underlying92; have HS := am_ hS; have HB := am_ hB; have HP := am_ hP; have HX := am_ (Kp.refl (P := P) w); have H := am_ hf; clear hS hB hP hf; go_enter Tryz.func75, Tryz.ntmps75
 go_wp2; go_loopw [1, 5] (fun v1 v5 wr => ∃ (i : Nat) (x : Int), v1 = .int .i64 x ∧ v5 = .int .i64 (i : Int) ∧ i ≤ n ∧ aa (mkF k (n - i) x = some r) ∧ aa (Below w0.heap.size w0 wr) ∧ aa (Kp P w wr)) (fun _ v _ => match v with | .int _ i => n - i.toNat | _ => 0)
 case atStart => exact ⟨0, a, rfl, rfl, Nat.zero_le _, H, HB, HX⟩
 case round =>
  clear H HB HX; obtain ⟨i, x, rfl, rfl, hi, H, HB, HX⟩ := hrel; rcases Nat.lt_or_ge i n with hlt | hge
  ·have h := H.out; rw [show n - i = (n - (i + 1)) + 1 by omega, mkF] at h; obtain ⟨s1, A1, h⟩ := bi_ h; have H := am_ h; obtain ⟨g, off, _, rfl, hp, _⟩ := HS.out.get HX.out (fun _ _ _ => isF.like) (i * 3) u7_; have p1 : ((i : Int) < (n : Int)) = True := eq_true u7_; have p0 : (0 ≤ (i : Int)) = True := eq_true u7_; have HPg := am_ hp; clear h hp; go_wp2_with (first | (go_at_call 83; (with_reducible refine (aE.calls k _ _ _ A1.out).mono ?_); rintro e w1 ⟨rfl, hb⟩; replace HX := am_ (HX.out.trans (Kp.below hb)); replace HB := am_ (bD HB.out hb); obtain ⟨_, _, v, e, _, hc1, hz1, q, K1⟩ := HS.out.get HX.out (fun _ _ _ => isF.like) (i * 3) u7_; cases e; rw [isF, if_pos u7_] at q; obtain ⟨y, rfl⟩ := q; obtain ⟨_, _, v, e, _, hc2, hz2, q, _⟩ := HS.out.get HX.out (fun _ _ _ => isF.like) (i * 3 + 1) u7_; cases e; rw [isF, if_neg u7_] at q; obtain ⟨y2, rfl⟩ := q; obtain ⟨_, _, v, e, _, hc3, hz3, q, _⟩ := HS.out.get HX.out (fun _ _ _ => isF.like) (i * 3 + 2) u7_; cases e; rw [isF, if_neg u7_] at q; obtain ⟨y3, rfl⟩ := q; rw [← Nat.add_assoc] at hc2 hz2 hc3 hz3; replace HX := am_ (HX.out.trans (K1 (.string s1) Like.str)); clear K1; obtain ⟨_, _, v, e, _, _, _, q, K1⟩ := HS.out.get HX.out (fun _ _ _ => isF.like) (i * 3 + 1) u7_; cases e; rw [isF, if_neg u7_] at q; obtain ⟨z, rfl⟩ := q; replace HX := am_ (HX.out.trans (K1 (.int .i64 (wrap64 (x + 1))) Like.int)); clear K1; obtain ⟨_, _, v, e, _, _, _, q, K1⟩ := HS.out.get HX.out (fun _ _ _ => isF.like) (i * 3 + 2) u7_; cases e; rw [isF, if_neg u7_] at q; obtain ⟨z2, rfl⟩ := q; replace HX := am_ (HX.out.trans (K1 (.int .i64 (wrap64 (wrap64 (x + 1) + 1))) Like.int)); replace HB := am_ (bo (j := off + (i * 3 + 2)) (v := .int .i64 (wrap64 (wrap64 (x + 1) + 1))) (bo (j := off + (i * 3 + 1)) (v := .int .i64 (wrap64 (x + 1))) (bo (j := off + i * 3) (v := .string s1) HB.out (HP.out g HPg.out)) (HP.out g HPg.out)) (HP.out g HPg.out)); clear hb K1))
   exact ⟨⟨i + 1, _, rfl, cw, hlt, H, HB, HX⟩, kc⟩
  ·obtain rfl : i = n := by omega
   have h := H.out; rw [Nat.sub_self, mkF] at h; obtain rfl := si_ h; have p1 : ((i : Int) < (i : Int)) = False := eq_false u7_; clear h H; go_wp2; go_ret
   exact ⟨rfl, HB.out, HX.out⟩
def isP (P : Nat → Prop) (W : World) (ns : List Nat) (j : Nat) (v : Value) : Prop := if j % 2 = 0 then isI j v else ∃ A c, v = .slice A (ns.getD (j / 2) 0) c ∧ ns.getD (j / 2) 0 ≤ 9223372036854775807 ∧ Flat P W A (ns.getD (j / 2) 0) isI
theorem Like.slice {A : Option Addr} {n c : Nat} {u : Value} (l : Like (.slice A n c) u) : u = .slice A n c := by
 rcases l with rfl | ⟨_, _, _, e, _⟩ | ⟨_, _, e, _⟩
 ·rfl
 ·cases e
 ·cases e
theorem isP.kp {w W : World} {ns : List Nat} {j : Nat} {v u : Value} (h : isP P w ns j v) (K : Kp P w W) (l : Like v u) : isP P W ns j u := by
 unfold isP at h ⊢
 split at h
 ·exact u80_
 ·rw [if_neg oW]; obtain ⟨A, c, rfl, hm, hF⟩ := h; exact ⟨A, c, l.slice, hm, hF.kp K fun _ _ _ => isI.like⟩
def mkP : List Nat → Int → Int
 | [], a => a
 | n :: ns, a => mkP ns (j9 n (wrap64 (a + 1)))
theorem nO (A : Option Addr) (ns : List Nat) (c : Nat) (a : Int) (w0 w : World) (hB : Below w0.heap.size w0 w) (hP : ∀ g, P g → w0.heap.size ≤ g) (hS : Flat P w A (ns.length * 2) (isP P w ns)) (hn : ns.length ≤ 9223372036854775807) :
  Calls Tryz.prog 34 #[.slice A ns.length c, .int .i64 a] w fun e w' => e = .returned (.int .i64 (mkP ns a)) ∧ Below w0.heap.size w0 w' ∧ Kp P w w' := by
 have hu50 := Tryz.underlying50; have HS := am_ hS; have HB := am_ hB; have HP := am_ hP; have HX := am_ (Kp.refl (P := P) w); clear hS hB hP; go_enter Tryz.func34, Tryz.ntmps34
 go_wp2; go_loopw [1, 5] (fun v1 v5 wr => ∃ (i : Nat) (x : Int), v1 = .int .i64 x ∧ v5 = .int .i64 (i : Int) ∧ i ≤ ns.length ∧ aa (mkP ns a = mkP (ns.drop i) x) ∧ aa (Below w0.heap.size w0 wr) ∧ aa (Kp P w wr)) (fun _ v _ => match v with | .int _ i => ns.length - i.toNat | _ => 0)
 case atStart => exact ⟨0, a, rfl, rfl, Nat.zero_le _, ⟨rfl⟩, HB, HX⟩
 case round =>
  clear HB HX; obtain ⟨i, x, rfl, rfl, hi, H, HB, HX⟩ := hrel; rcases Nat.lt_or_ge i ns.length with hlt | hge
  ·have h := H.out; rw [List.drop_eq_getElem_cons hlt, mkP] at h; have H := am_ h; obtain ⟨g, off, v, rfl, hp, hc1, hz1, q, K1⟩ := HS.out.get HX.out (fun _ _ _ q l => q.kp HX.out l) (i * 2) u7_; rw [isP, if_pos u7_] at q; obtain ⟨y, rfl⟩ := q; obtain ⟨_, _, v, e, _, hc2, hz2, q, _⟩ := HS.out.get HX.out (fun _ _ _ q l => q.kp HX.out l) (i * 2 + 1) u7_; cases e; rw [isP, if_neg u7_, show (i * 2 + 1) / 2 = i by omega, List.getD_eq_getElem?_getD, List.getElem?_eq_getElem hlt, Option.getD_some] at q; obtain ⟨A2, c2, rfl, hm, hF⟩ := q; rw [← Nat.add_assoc] at hc2 hz2; have p1 : ((i : Int) < (ns.length : Int)) = True := eq_true u7_; have p0 : (0 ≤ (i : Int)) = True := eq_true u7_; have K := am_ (K1 (.int .i64 x) Like.int); have HF := am_ (hF.kp K.out fun _ _ _ => isI.like); replace HX := am_ (HX.out.trans K.out); replace HB := am_ (bo (j := off + i * 2) (v := .int .i64 x) HB.out (HP.out g hp)); clear h hp hF K1 K; go_wp2_with (first | (go_at_call 81; (with_reducible refine (o8 (P := P) A2 _ c2 _ w0 _ HB.out HP.out HF.out hm).mono ?_); rintro e w1 ⟨rfl, hb, hk⟩; replace HX := am_ (HX.out.trans hk); replace HB := am_ hb; clear hb hk))
   exact ⟨⟨i + 1, _, rfl, cw, hlt, H, HB, HX⟩, kc⟩
  ·obtain rfl : i = ns.length := by omega
   have h := H.out; rw [List.drop_length, mkP] at h; have H := am_ h; have p1 : ((ns.length : Int) < (ns.length : Int)) = False := eq_false u7_; clear h; go_wp2; go_ret
   exact ⟨by rw [H.out]; rfl, HB.out, HX.out⟩
def isR (P : Nat → Prop) (W : World) (ns : List Nat) (j : Nat) (v : Value) : Prop := if j % 3 = 0 then isI j v else if j % 3 = 1 then isS j v else ∃ A c, v = .slice A (ns.getD (j / 3) 0) c ∧ ns.getD (j / 3) 0 ≤ 9223372036854775807 ∧ Flat P W A (ns.getD (j / 3) 0 * 2) isS
theorem isR.kp {w W : World} {ns : List Nat} {j : Nat} {v u : Value} (h : isR P w ns j v) (K : Kp P w W) (l : Like v u) : isR P W ns j u := by
 unfold isR at h ⊢
 split at h
 ·exact u80_
 ·rw [if_neg oW]; split at h
  ·exact u80_
  ·rw [if_neg oW]; obtain ⟨A, c, rfl, hm, hF⟩ := h; exact ⟨A, c, l.slice, hm, hF.kp K fun _ _ _ => isS.like⟩
def mkR (k : Nat) : List Nat → Int → Option Int
 | [], a => some a
 | n :: ns, a => (aE.f k (wrap64 (a + 1))).bind fun _ => (mkC k n (wrap64 (wrap64 (a + 1) + 1))).bind fun b => mkR k ns b
theorem oU (k : Nat) (A : Option Addr) (ns : List Nat) (c : Nat) (a r : Int) (w0 w : World) (hB : Below w0.heap.size w0 w) (hP : ∀ g, P g → w0.heap.size ≤ g) (hS : Flat P w A (ns.length * 3) (isR P w ns)) (hn : ns.length ≤ 9223372036854775807) (hf : mkR k ns a = some r) :
  Calls Tryz.prog 76 #[.slice A ns.length c, .int .i64 a] w fun e w' => e = .returned (.int .i64 r) ∧ Below w0.heap.size w0 w' ∧ Kp P w w' := by
 have hu46 := Tryz.underlying46; have hu44 := Tryz.underlying44; have HS := am_ hS; have HB := am_ hB; have HP := am_ hP; have HX := am_ (Kp.refl (P := P) w); have H := am_ hf; clear hS hB hP hf; go_enter Tryz.func76, Tryz.ntmps76
 go_wp2; go_loopw [1, 5] (fun v1 v5 wr => ∃ (i : Nat) (x : Int), v1 = .int .i64 x ∧ v5 = .int .i64 (i : Int) ∧ i ≤ ns.length ∧ aa (mkR k (ns.drop i) x = some r) ∧ aa (Below w0.heap.size w0 wr) ∧ aa (Kp P w wr)) (fun _ v _ => match v with | .int _ i => ns.length - i.toNat | _ => 0)
 case atStart => exact ⟨0, a, rfl, rfl, Nat.zero_le _, H, HB, HX⟩
 case round =>
  clear H HB HX; obtain ⟨i, x, rfl, rfl, hi, H, HB, HX⟩ := hrel; rcases Nat.lt_or_ge i ns.length with hlt | hge
  ·have h := H.out; rw [List.drop_eq_getElem_cons hlt, mkR] at h; obtain ⟨s1, A1, h⟩ := bi_ h; obtain ⟨b, A2, h⟩ := bi_ h; have H := am_ h; obtain ⟨g, off, v, rfl, hp, hc1, hz1, q, K1⟩ := HS.out.get HX.out (fun _ _ _ q l => q.kp HX.out l) (i * 3) u7_; rw [isR, if_pos u7_] at q; obtain ⟨y, rfl⟩ := q; have p1 : ((i : Int) < (ns.length : Int)) = True := eq_true u7_; have p0 : (0 ≤ (i : Int)) = True := eq_true u7_; have HPg := am_ hp; replace HX := am_ (HX.out.trans (K1 (.int .i64 x) Like.int)); replace HB := am_ (bo (j := off + i * 3) (v := .int .i64 x) HB.out (HP.out g hp)); clear h hp K1; go_wp2_with (first | (go_at_call 83; (with_reducible refine (aE.calls k _ _ _ A1.out).mono ?_); rintro e w1 ⟨rfl, hb⟩; replace HX := am_ (HX.out.trans (Kp.below hb)); replace HB := am_ (bD HB.out hb); obtain ⟨_, _, v, e, _, hc2, hz2, q, K1⟩ := HS.out.get HX.out (fun _ _ _ q l => q.kp HX.out l) (i * 3 + 1) u7_; cases e; rw [isR, if_neg u7_, if_pos u7_] at q; obtain ⟨y2, rfl⟩ := q; obtain ⟨_, _, v, e, _, hc3, hz3, q, _⟩ := HS.out.get HX.out (fun _ _ _ q l => q.kp HX.out l) (i * 3 + 2) u7_; cases e; rw [isR, if_neg u7_, if_neg u7_, show (i * 3 + 2) / 3 = i by omega, List.getD_eq_getElem?_getD, List.getElem?_eq_getElem hlt, Option.getD_some] at q; obtain ⟨D, c2, rfl, hm, hF⟩ := q; rw [← Nat.add_assoc] at hc2 hz2 hc3 hz3; have K : aa (Kp P w1 (w1.setCell ⟨g, off + i * 3 + 1, none⟩ (.string s1))) := ⟨K1 (.string s1) Like.str⟩; have HF := am_ (hF.kp K.out fun _ _ _ => isS.like); replace HX := am_ (HX.out.trans K.out); replace HB := am_ (bo (j := off + i * 3 + 1) (v := .string s1) HB.out (HP.out g HPg.out)); clear hb hF K1 K) | (go_at_call 78; (with_reducible refine (nJ (P := P) k _ _ _ _ _ w0 _ HB.out HP.out HF.out hm A2.out).mono ?_); rintro e w2 ⟨rfl, hb, hk⟩; replace HX := am_ (HX.out.trans hk); replace HB := am_ hb; clear hb hk))
   exact ⟨⟨i + 1, _, rfl, cw, hlt, H, HB, HX⟩, kc⟩
  ·obtain rfl : i = ns.length := by omega
   have h := H.out; rw [List.drop_length, mkR] at h; obtain rfl := si_ h; have p1 : ((ns.length : Int) < (ns.length : Int)) = False := eq_false u7_; clear h H; go_wp2; go_ret
   exact ⟨rfl, HB.out, HX.out⟩
def isE (P : Nat → Prop) (W : World) (ns : List (List Nat)) (j : Nat) (v : Value) : Prop := if j % 3 = 0 then isS j v else if j % 3 = 1 then isS j v else ∃ A c, v = .slice A (ns.getD (j / 3) []).length c ∧ (ns.getD (j / 3) []).length ≤ 9223372036854775807 ∧ Flat P W A ((ns.getD (j / 3) []).length * 2) (isP P W (ns.getD (j / 3) []))
theorem isE.kp {w W : World} {ns : List (List Nat)} {j : Nat} {v u : Value} (h : isE P w ns j v) (K : Kp P w W) (l : Like v u) : isE P W ns j u := by
 unfold isE at h ⊢
 split at h
 ·exact u80_
 ·rw [if_neg oW]; split at h
  ·exact u80_
  ·rw [if_neg oW]; obtain ⟨A, c, rfl, hm, hF⟩ := h; exact ⟨A, c, l.slice, hm, hF.kp K fun _ _ _ q l => q.kp K l⟩
def mkE (k : Nat) : List (List Nat) → Int → Option Int
 | [], a => some a
 | n :: ns, a => (aE.f k a).bind fun _ => (aE.f k (wrap64 (a + 1))).bind fun _ => mkE k ns (mkP n (wrap64 (wrap64 (a + 1) + 1)))
theorem nm (k : Nat) (A : Option Addr) (ns : List (List Nat)) (c : Nat) (a r : Int) (w0 w : World) (hB : Below w0.heap.size w0 w) (hP : ∀ g, P g → w0.heap.size ≤ g) (hS : Flat P w A (ns.length * 3) (isE P w ns)) (hn : ns.length ≤ 9223372036854775807) (hf : mkE k ns a = some r) :
  Calls Tryz.prog 77 #[.slice A ns.length c, .int .i64 a] w fun e w' => e = .returned (.int .i64 r) ∧ Below w0.heap.size w0 w' ∧ Kp P w w' := by
 have hu76 := Tryz.underlying76; have HS := am_ hS; have HB := am_ hB; have HP := am_ hP; have HX := am_ (Kp.refl (P := P) w); have H := am_ hf; clear hS hB hP hf; go_enter Tryz.func77, Tryz.ntmps77
 go_wp2; go_loopw [1, 5] (fun v1 v5 wr => ∃ (i : Nat) (x : Int), v1 = .int .i64 x ∧ v5 = .int .i64 (i : Int) ∧ i ≤ ns.length ∧ aa (mkE k (ns.drop i) x = some r) ∧ aa (Below w0.heap.size w0 wr) ∧ aa (Kp P w wr)) (fun _ v _ => match v with | .int _ i => ns.length - i.toNat | _ => 0)
 case atStart => exact ⟨0, a, rfl, rfl, Nat.zero_le _, H, HB, HX⟩
 case round =>
  clear H HB HX; obtain ⟨i, x, rfl, rfl, hi, H, HB, HX⟩ := hrel; rcases Nat.lt_or_ge i ns.length with hlt | hge
  ·have h := H.out; rw [List.drop_eq_getElem_cons hlt, mkE] at h; obtain ⟨s1, A1, h⟩ := bi_ h; obtain ⟨s2, A2, h⟩ := bi_ h; have H := am_ h; obtain ⟨g, off, v, rfl, hp, _⟩ := HS.out.get HX.out (fun _ _ _ q l => q.kp HX.out l) (i * 3) u7_; have p1 : ((i : Int) < (ns.length : Int)) = True := eq_true u7_; have p0 : (0 ≤ (i : Int)) = True := eq_true u7_; have HPg := am_ hp; clear h hp; go_wp2_with (first | (go_at_call 83; (with_reducible refine (aE.calls k _ _ _ A1.out).mono ?_); rintro e w1 ⟨rfl, hb⟩; replace HX := am_ (HX.out.trans (Kp.below hb)); replace HB := am_ (bD HB.out hb); obtain ⟨_, _, v, e, _, hc1, hz1, q, K1⟩ := HS.out.get HX.out (fun _ _ _ q l => q.kp HX.out l) (i * 3) u7_; cases e; rw [isE, if_pos u7_] at q; obtain ⟨y1, rfl⟩ := q; replace HX := am_ (HX.out.trans (K1 (.string s1) Like.str)); replace HB := am_ (bo (j := off + i * 3) (v := .string s1) HB.out (HP.out g HPg.out)); clear hb K1) | (go_at_call 83; (with_reducible refine (aE.calls k _ _ _ A2.out).mono ?_); rintro e w2 ⟨rfl, hb⟩; replace HX := am_ (HX.out.trans (Kp.below hb)); replace HB := am_ (bD HB.out hb); obtain ⟨_, _, v, e, _, hc2, hz2, q, K1⟩ := HS.out.get HX.out (fun _ _ _ q l => q.kp HX.out l) (i * 3 + 1) u7_; cases e; rw [isE, if_neg u7_, if_pos u7_] at q; obtain ⟨y2, rfl⟩ := q; obtain ⟨_, _, v, e, _, hc3, hz3, q, _⟩ := HS.out.get HX.out (fun _ _ _ q l => q.kp HX.out l) (i * 3 + 2) u7_; cases e; rw [isE, if_neg u7_, if_neg u7_, show (i * 3 + 2) / 3 = i by omega, List.getD_eq_getElem?_getD, List.getElem?_eq_getElem hlt, Option.getD_some] at q; obtain ⟨D, c2, rfl, hm, hF⟩ := q; rw [← Nat.add_assoc] at hc2 hz2 hc3 hz3; have K : aa (Kp P w2 (w2.setCell ⟨g, off + i * 3 + 1, none⟩ (.string s2))) := ⟨K1 (.string s2) Like.str⟩; have HF := am_ (hF.kp K.out fun _ _ _ q l => q.kp K.out l); replace HX := am_ (HX.out.trans K.out); replace HB := am_ (bo (j := off + i * 3 + 1) (v := .string s2) HB.out (HP.out g HPg.out)); clear hb hF K1 K) | (go_at_call 34; (with_reducible refine (nO (P := P) _ _ _ _ w0 _ HB.out HP.out HF.out hm).mono ?_); rintro e w2 ⟨rfl, hb, hk⟩; replace HX := am_ (HX.out.trans hk); replace HB := am_ hb; clear hb hk))
   exact ⟨⟨i + 1, _, rfl, cw, hlt, H, HB, HX⟩, kc⟩
  ·obtain rfl : i = ns.length := by omega
   have h := H.out; rw [List.drop_length, mkE] at h; obtain rfl := si_ h; have p1 : ((ns.length : Int) < (ns.length : Int)) = False := eq_false u7_; clear h H; go_wp2; go_ret
   exact ⟨rfl, HB.out, HX.out⟩
theorem Kp.sl {w W : World} {g t n c : Nat} {cs : Array Value} {A : Option Addr} (k : Kp P w W) (hb : w.heap[g]? = some (Obj.cells cs t (0, 0))) (j : Nat) (hj : cs[j]? = some (.slice A n c)) : W.cell? ⟨g, j, none⟩ = some (.slice A n c) ∧ W.frozen? ⟨g, j, none⟩ = false := by
 obtain ⟨ds, hd, hl⟩ := k.like g cs t hb; obtain ⟨u, hu, l⟩ := hl j _ hj; rw [l.slice] at hu; exact ⟨(bg hd j).trans hu, cW hd j⟩
def mkI (k n : Nat) (rs : List Nat) (es : List (List Nat)) (a : Int) : Option Int := (mkF k n a).bind fun b => (mkR k rs b).bind fun c => mkE k es c
theorem ot (k : Nat) (A B D : Option Addr) (n c cB cD : Nat) (rs : List Nat) (es : List (List Nat)) (x a r : Int) (w0 w : World) (hB : Below w0.heap.size w0 w) (hP : ∀ g, P g → w0.heap.size ≤ g)
  (hF : Flat P w A (n * 3) isF) (hR : Flat P w B (rs.length * 3) (isR P w rs)) (hE : Flat P w D (es.length * 3) (isE P w es)) (hn : n ≤ 9223372036854775807) (hnR : rs.length ≤ 9223372036854775807) (hnE : es.length ≤ 9223372036854775807) (hf : mkI k n rs es a = some r) :
  Calls Tryz.prog 30 #[.agg #[.slice A n c, .slice B rs.length cB, .slice D es.length cD, .int .i64 x], .int .i64 a] w fun e w' => e = .returned (.int .i64 r) ∧ Below w0.heap.size w0 w' ∧ Kp P w w' := by
 have hu27 := Tryz.underlying27; have HF := am_ hF; have HR := am_ hR; have HE := am_ hE; have HB := am_ hB; have HP := am_ hP; have HX := am_ (Kp.refl (P := P) w); unfold mkI at hf
 obtain ⟨b, A1, hf⟩ := bi_ hf; obtain ⟨d, A2, hf⟩ := bi_ hf; have A3 := am_ hf; clear hF hR hE hB hP hf; go_enter Tryz.func30, Tryz.ntmps30
 go_wp2_with (first | ((with_reducible refine gt_ 2 ?_); refine bx_ 2 #[.slice A n c, .slice B rs.length cB, .slice D es.length cD, .int .i64 x] 27 ?_; intro g hg w1 hbox hb; have BK := am_ hbox; replace HX := am_ (HX.out.trans (Kp.below hb)); have HY := am_ (Kp.refl (P := P) w1); replace HB := am_ (bD HB.out hb); obtain ⟨f0, z0⟩ := HY.out.sl BK.out 0 rfl; clear hb hg hbox) | (go_at_call 75; (with_reducible refine (np (P := P) k _ _ _ _ _ w0 _ HB.out HP.out (HF.out.kp HX.out fun _ _ _ => isF.like) hn A1.out).mono ?_); rintro e w2 ⟨rfl, hb, hk⟩; replace HX := am_ (HX.out.trans hk); replace HY := am_ (HY.out.trans hk); replace HB := am_ hb; obtain ⟨f1, z1⟩ := HY.out.sl BK.out 1 rfl; clear hb hk) | (go_at_call 76; (with_reducible refine (oU (P := P) k _ _ _ _ _ w0 _ HB.out HP.out (HR.out.kp HX.out fun _ _ _ q l => q.kp HX.out l) hnR A2.out).mono ?_); rintro e w3 ⟨rfl, hb, hk⟩; replace HX := am_ (HX.out.trans hk); replace HY := am_ (HY.out.trans hk); replace HB := am_ hb; obtain ⟨f2, z2⟩ := HY.out.sl BK.out 2 rfl; clear hb hk) | (go_at_call 77; (with_reducible refine (nm (P := P) k _ _ _ _ _ w0 _ HB.out HP.out (HE.out.kp HX.out fun _ _ _ q l => q.kp HX.out l) hnE A3.out).mono ?_); rintro e w4 ⟨rfl, hb, hk⟩; replace HX := am_ (HX.out.trans hk); replace HB := am_ hb; clear hb hk))
 go_ret
 exact ⟨rfl, HB.out, HX.out⟩
end
theorem rowM {α : Type} {d : Kd α} {e base : Nat} {w : World} {ok : Nat → Prop} {v : Value} {xs : List α} (h : Kd.R d e w base ok v xs) : ∃ A c, v = .slice A xs.length c ∧ (0 < xs.length → ∃ (g : Nat) (cur : Array Value), A = some ⟨g, 0, none⟩ ∧ ok g ∧ w.heap[g]? = some (Obj.cells cur e (0, 0)) ∧ ∀ (j : Nat) (x : α), xs[j]? = some x → ∃ c : List Value, d.M w base ok x c ∧ c.length = d.sz ∧ ∀ (i : Nat) (u : Value), c[i]? = some u → cur[j * d.sz + i]? = some u) := by
 obtain ⟨h0, inner, ⟨hlen, ho⟩, hr⟩ := h; rcases ho with ⟨rfl, hn⟩ | ⟨g, cap, cur, rfl, hb, hh, hl, hm, hs, ht⟩
 ·exact ⟨none, 0, by rw [hn], fun h => by omega⟩
 ·refine ⟨_, cap, rfl, fun _ => ⟨g, cur, rfl, h0 g rfl, hh, fun j x hx => ⟨_, d.M_mono (fun k hk => hk.1) (hr.2 j x hx), d.K_len (d.K_of_M (hr.2 j x hx)), fun i u hu => ?_⟩⟩⟩; have hj : j < xs.length := (List.getElem?_eq_some_iff.1 hx).1; have hi : i < d.sz := by
   have := (List.getElem?_eq_some_iff.1 hu).1; rw [d.K_len (d.K_of_M (hr.2 j x hx))] at this; exact this
  have hlt : j * d.sz + i < xs.length * d.sz := by
   have : j * d.sz + d.sz ≤ xs.length * d.sz := by rw [← Nat.succ_mul]; exact Nat.mul_le_mul_right _ hj
   omega
  rw [List.getElem?_take, if_pos hi, List.getElem?_drop, ← ht, List.getElem?_take, if_pos hlt, Array.getElem?_toList] at hu; exact hu
theorem flatI {w : World} {base : Nat} {ok P : Nat → Prop} {v : Value} {xs : List Int} (h : Kd.R (Kd.int .i64) 3 w base ok v xs) (hP : ∀ k, ok k → P k) : ∃ A c, v = .slice A xs.length c ∧ Flat P w A xs.length isI := by
 obtain ⟨A, c, rfl, hf⟩ := rowM h; refine ⟨A, c, rfl, fun hn => ?_⟩; obtain ⟨g, cur, rfl, hg, hh, hc⟩ := hf hn; refine ⟨g, 0, cur, 3, rfl, hP g hg, hh, fun j hj => ?_⟩; obtain ⟨c, hM, _, hu⟩ := hc j _ (List.getElem?_eq_getElem hj); obtain rfl : c = [.int .i64 xs[j]] := hM; exact ⟨.int .i64 xs[j], by rw [Nat.zero_add]; have := hu 0 _ rfl; simpa [Kd.int, Kd.scalar] using this, _, rfl⟩
theorem flatS {w : World} {base : Nat} {ok P : Nat → Prop} {v : Value} {xs : List S86} (h : Kd.R k86 86 w base ok v xs) (hP : ∀ k, ok k → P k) : ∃ A c, v = .slice A xs.length c ∧ Flat P w A (xs.length * 2) isS := by
 obtain ⟨A, c, rfl, hf⟩ := rowM h; refine ⟨A, c, rfl, fun hn => ?_⟩; obtain ⟨g, cur, rfl, hg, hh, hc⟩ := hf u7_; refine ⟨g, 0, cur, 86, rfl, hP g hg, hh, fun j hj => ?_⟩; obtain ⟨c, hM, _, hu⟩ := hc (j / 2) _ (List.getElem?_eq_getElem u7_); obtain rfl := js hM; rw [Nat.zero_add]; rcases Nat.mod_two_eq_zero_or_one j with e | e
 ·have := hu 0 _ rfl; rw [show j / 2 * k86.sz + 0 = j from by show j / 2 * 2 + 0 = j; omega] at this; exact ⟨_, this, _, rfl⟩
 ·have := hu 1 _ rfl; rw [show j / 2 * k86.sz + 1 = j from by show j / 2 * 2 + 1 = j; omega] at this; exact ⟨_, this, _, rfl⟩
theorem flatF {w : World} {base : Nat} {ok P : Nat → Prop} {v : Value} {xs : List S92} (h : Kd.R k92 92 w base ok v xs) (hP : ∀ k, ok k → P k) : ∃ A c, v = .slice A xs.length c ∧ Flat P w A (xs.length * 3) isF := by
 obtain ⟨A, c, rfl, hf⟩ := rowM h; refine ⟨A, c, rfl, fun hn => ?_⟩; obtain ⟨g, cur, rfl, hg, hh, hc⟩ := hf u7_; refine ⟨g, 0, cur, 92, rfl, hP g hg, hh, fun j hj => ?_⟩; obtain ⟨c, hM, _, hu⟩ := hc (j / 3) _ (List.getElem?_eq_getElem u7_); obtain rfl := jy hM; rw [Nat.zero_add]; unfold isF
 rcases (by omega : j % 3 = 0 ∨ j % 3 = 1 ∨ j % 3 = 2) with e | e | e
 ·have := hu 0 _ rfl; rw [show j / 3 * k92.sz + 0 = j from by show j / 3 * 3 + 0 = j; omega] at this; exact ⟨_, this, u74_⟩
 ·have := hu 1 _ rfl; rw [show j / 3 * k92.sz + 1 = j from by show j / 3 * 3 + 1 = j; omega] at this; exact ⟨_, this, by rw [if_neg u7_]; exact ⟨_, rfl⟩⟩
 ·have := hu 2 _ rfl; rw [show j / 3 * k92.sz + 2 = j from by show j / 3 * 3 + 2 = j; omega] at this; exact ⟨_, this, by rw [if_neg u7_]; exact ⟨_, rfl⟩⟩
theorem nZ {α : Type} (f : α → Nat) (xs : List α) (i : Nat) (h : i < xs.length) : (xs.map f).getD i 0 = f xs[i] := by simp [List.getD_eq_getElem?_getD, List.getElem?_eq_getElem h]
theorem rL {α : Type} (f : α → List Nat) (xs : List α) (i : Nat) (h : i < xs.length) : (xs.map f).getD i [] = f xs[i] := by simp [List.getD_eq_getElem?_getD, List.getElem?_eq_getElem h]
theorem flatP {w : World} {base : Nat} {ok P : Nat → Prop} {v : Value} {xs : List S50} (h : Kd.R k50 50 w base ok v xs) (hP : ∀ k, ok k → P k) : ∃ A c, v = .slice A (xs.map fun x => x.f1.length).length c ∧ Flat P w A ((xs.map fun x => x.f1.length).length * 2) (isP P w (xs.map fun x => x.f1.length)) := by
 rw [List.length_map]; obtain ⟨A, c, rfl, hf⟩ := rowM h; refine ⟨A, c, rfl, fun hn => ?_⟩; obtain ⟨g, cur, rfl, hg, hh, hc⟩ := hf u7_; refine ⟨g, 0, cur, 50, rfl, hP g hg, hh, fun j hj => ?_⟩; obtain ⟨c, hM, _, hu⟩ := hc (j / 2) _ (List.getElem?_eq_getElem u7_); obtain ⟨v1, rfl, hv⟩ := ga hM; rw [Nat.zero_add]; unfold isP
 rcases Nat.mod_two_eq_zero_or_one j with e | e
 ·have := hu 0 _ rfl; rw [show j / 2 * k50.sz + 0 = j from by show j / 2 * 2 + 0 = j; omega] at this; exact ⟨_, this, u74_⟩
 ·have := hu 1 _ rfl; rw [show j / 2 * k50.sz + 1 = j from by show j / 2 * 2 + 1 = j; omega] at this; refine ⟨_, this, ?_⟩; rw [if_neg u7_, nZ _ _ _ u7_]; obtain ⟨A, c, rfl, hF⟩ := flatI hv hP; exact ⟨A, c, rfl, (Kd.R_reads' hv).2.2.2.1, hF⟩
theorem flatR {w : World} {base : Nat} {ok P : Nat → Prop} {v : Value} {xs : List S46} (h : Kd.R k46 46 w base ok v xs) (hP : ∀ k, ok k → P k) : ∃ A c, v = .slice A (xs.map fun x => x.f1.f1.length).length c ∧ Flat P w A ((xs.map fun x => x.f1.f1.length).length * 3) (isR P w (xs.map fun x => x.f1.f1.length)) := by
 rw [List.length_map]; obtain ⟨A, c, rfl, hf⟩ := rowM h; refine ⟨A, c, rfl, fun hn => ?_⟩; obtain ⟨g, cur, rfl, hg, hh, hc⟩ := hf u7_; refine ⟨g, 0, cur, 46, rfl, hP g hg, hh, fun j hj => ?_⟩; obtain ⟨c, hM, _, hu⟩ := hc (j / 3) _ (List.getElem?_eq_getElem u7_); obtain ⟨v1, rfl, hv⟩ := jM hM; rw [Nat.zero_add]; unfold isR
 rcases (by omega : j % 3 = 0 ∨ j % 3 = 1 ∨ j % 3 = 2) with e | e | e
 ·have := hu 0 _ rfl; rw [show j / 3 * k46.sz + 0 = j from by show j / 3 * 3 + 0 = j; omega] at this; exact ⟨_, this, u74_⟩
 ·have := hu 1 _ rfl; rw [show j / 3 * k46.sz + 1 = j from by show j / 3 * 3 + 1 = j; omega] at this; exact ⟨_, this, by rw [if_neg u7_, if_pos e]; exact ⟨_, rfl⟩⟩
 ·have := hu 2 _ rfl; rw [show j / 3 * k46.sz + 2 = j from by show j / 3 * 3 + 2 = j; omega] at this; refine ⟨_, this, ?_⟩; rw [if_neg u7_, if_neg u7_, nZ _ _ _ u7_]; obtain ⟨A, c, rfl, hF⟩ := flatS hv hP; exact ⟨A, c, rfl, (Kd.R_reads' hv).2.2.2.1, hF⟩
theorem flatE {w : World} {base : Nat} {ok P : Nat → Prop} {v : Value} {xs : List S76} (h : Kd.R k76 76 w base ok v xs) (hP : ∀ k, ok k → P k) : ∃ A c, v = .slice A (xs.map fun x => x.f2.map fun p => p.f1.length).length c ∧ Flat P w A ((xs.map fun x => x.f2.map fun p => p.f1.length).length * 3) (isE P w (xs.map fun x => x.f2.map fun p => p.f1.length)) := by
 rw [List.length_map]; obtain ⟨A, c, rfl, hf⟩ := rowM h; refine ⟨A, c, rfl, fun hn => ?_⟩; obtain ⟨g, cur, rfl, hg, hh, hc⟩ := hf u7_; refine ⟨g, 0, cur, 76, rfl, hP g hg, hh, fun j hj => ?_⟩; obtain ⟨c, hM, _, hu⟩ := hc (j / 3) _ (List.getElem?_eq_getElem u7_); obtain ⟨v1, rfl, hv⟩ := g8 hM; rw [Nat.zero_add]; unfold isE
 rcases (by omega : j % 3 = 0 ∨ j % 3 = 1 ∨ j % 3 = 2) with e | e | e
 ·have := hu 0 _ rfl; rw [show j / 3 * k76.sz + 0 = j from by show j / 3 * 3 + 0 = j; omega] at this; exact ⟨_, this, u74_⟩
 ·have := hu 1 _ rfl; rw [show j / 3 * k76.sz + 1 = j from by show j / 3 * 3 + 1 = j; omega] at this; exact ⟨_, this, by rw [if_neg u7_, if_pos e]; exact ⟨_, rfl⟩⟩
 ·have := hu 2 _ rfl; rw [show j / 3 * k76.sz + 2 = j from by show j / 3 * 3 + 2 = j; omega] at this; refine ⟨_, this, ?_⟩; rw [if_neg u7_, if_neg u7_, rL _ _ _ u7_]; obtain ⟨A, c, rfl, hF⟩ := flatP hv hP; exact ⟨A, c, rfl, by rw [List.length_map]; exact (Kd.R_reads' hv).2.2.2.1, hF⟩
def dG.f (k : Nat) (l0_0 : List (S92)) (l0_1 : List (S46)) (l0_2 : List (S76)) (a0_3 a1 : Int) : Option Int := mkI k l0_0.length (l0_1.map fun x => x.f1.f1.length) (l0_2.map fun x => x.f2.map fun p => p.f1.length) a1
theorem dG.calls (k : Nat) (P : Nat → Prop) (v0 v1 v2 : Value) (l0 : List (S92)) (l1 : List (S46)) (l2 : List (S76)) (x a r : Int) (w0 w : World) (hB : Below w0.heap.size w0 w) (h0 : Kd.R k92 92 w w0.heap.size P v0 l0) (h1 : Kd.R k46 46 w w0.heap.size P v1 l1) (h2 : Kd.R k76 76 w w0.heap.size P v2 l2) (h : dG.f k l0 l1 l2 x a = some r) :
  Calls Tryz.prog 30 #[.agg #[v0, v1, v2, .int .i64 x], .int .i64 a] w fun e w' => e = .returned (.int .i64 r) ∧ Below w0.heap.size w0 w' ∧ Kept w w' P := by
 obtain ⟨A, c, rfl, hF⟩ := flatF (P := fun k => P k ∧ w0.heap.size ≤ k) (Kd.R_bound h0) fun _ h => ⟨h.1, h.2.1⟩
 obtain ⟨B, cB, rfl, hR⟩ := flatR (P := fun k => P k ∧ w0.heap.size ≤ k) (Kd.R_bound h1) fun _ h => ⟨h.1, h.2.1⟩
 obtain ⟨D, cD, rfl, hE⟩ := flatE (P := fun k => P k ∧ w0.heap.size ≤ k) (Kd.R_bound h2) fun _ h => ⟨h.1, h.2.1⟩
 refine (ot k A B D l0.length c cB cD _ _ x a r w0 w hB (fun _ h => h.2) hF hR hE (Kd.R_reads' h0).2.2.2.1 ?_ ?_ h).mono fun e w' h => ⟨h.1, h.2.1, h.2.2.kept.mono fun _ h => h.1⟩
 ·rw [List.length_map]; exact (Kd.R_reads' h1).2.2.2.1
 ·rw [List.length_map]; exact (Kd.R_reads' h2).2.2.2.1
def Px (w : World) (v u : Value) (k : Nat) : Prop := (∃ q ∈ [92, 46, 86, 76, 50, 3], ∃ c : Array Value, w.heap[k]? = some (Obj.cells c q (0, 0))) ∧ some k ≠ v.ownBlock ∧ some k ≠ u.ownBlock
theorem Px.R {α β γ : Type} {d : Kd α} {d1 : Kd β} {d2 : Kd γ} {e e1 e2 b b1 b2 : Nat} {w : World} {ok ok1 ok2 : Nat → Prop} {v v1 v2 : Value} {xs : List α} {ys : List β} {zs : List γ} (h : Kd.R d e w b ok v xs) (h1 : Kd.R d1 e1 w b1 ok1 v1 ys) (h2 : Kd.R d2 e2 w b2 ok2 v2 zs) (hs : (e :: d.E).all (fun q => decide (q ∈ [92, 46, 86, 76, 50, 3])) = true) (hb : (∀ q ∈ e :: d.E, q ≠ e1) ∨ ∀ k, ok k → some k ≠ v1.ownBlock) (hd : (∀ q ∈ e :: d.E, q ≠ e2) ∨ ∀ k, ok k → some k ≠ v2.ownBlock) : Kd.R d e w b (Px w v1 v2) v xs := by
 refine Kd.R_mono (Kd.R_bound h) fun k ⟨ho, _, _, q, hq, c, hc⟩ => ?_
 have ha := of_decide_eq_true (List.all_eq_true.1 hs q hq); refine ⟨⟨q, ha, c, hc⟩, fun e => ?_, fun e => ?_⟩
 ·rcases hb with hb | hb
  ·obtain ⟨c', hc'⟩ := Kd.R_typed h1 k e.symm; rw [hc] at hc'; have := Option.some.inj hc'; injection this with _ hh
   exact hb q hq hh
  ·exact hb k ho e
 ·rcases hd with hb | hb
  ·obtain ⟨c', hc'⟩ := Kd.R_typed h2 k e.symm; rw [hc] at hc'; have := Option.some.inj hc'; injection this with _ hh
   exact hb q hq hh
  ·exact hb k ho e
theorem Px.trivR {α : Type} {d : Kd α} {e b : Nat} {w : World} {ok : Nat → Prop} {v : Value} {xs : List α} (h : Kd.R d e w b ok v xs) : Kd.R d e w b (fun k => ok k ∧ True) v xs := Kd.R_mono h fun _ h => ⟨h, trivial⟩
theorem Px.trivS {α : Type} {d : Kd α} {e b : Nat} {w : World} {ok : Nat → Prop} {v : Value} {xs : List α} (h : Kd.S d e w b ok v xs) : Kd.S d e w b (fun k => ok k ∧ True) v xs := Kd.S_mono h fun _ h => ⟨h, trivial⟩
theorem Px.far {w w' : World} {v u : Value} {g t : Nat} {cs : Array Value} (hb : w.heap[g]? = some (Obj.cells cs t (0, 0))) (hk : Kept w w' (Px w v u)) (ht : t ∉ [92, 46, 86, 76, 50, 3]) : w'.heap[g]? = some (Obj.cells cs t (0, 0)) := by
 refine fj hb hk fun h => ?_
 obtain ⟨⟨q, hq, c, hc⟩, _⟩ := h; rw [hb] at hc; have := Option.some.inj hc; injection this with _ hh
 exact ht (hh ▸ hq)
end
end Go.Proofs.YtnjjdojonflckaaGreatDoor.PFnExactIndexPosts
