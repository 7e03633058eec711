/- Contracts of Go functions, each told as a plain Lean function. -/
import Derived.Test.YtnjjdojonflckaaGreatDoorVPFnExactIndexTermsx0
namespace Go.Proofs.YtnjjdojonflckaaGreatDoor.PFnExactIndexTerms
open Go.RowKit Go.Proofs.YtnjjdojonflckaaGreatDoorW.PrintWords Go.Proofs.YtnjjdojonflckaaGreatDoorW.PrintLast Go.Proofs.YtnjjdojonflckaaGreatDoorW.PrintMore
attribute [local go_sem] aY aW bS bV ct cr bx bw bQ bW
set_option linter.unusedVariables false
set_option linter.unusedSimpArgs false
set_option maxHeartbeats 8000000
set_option maxRecDepth 100000
def aM.f (a0 : Int) (a1 : Int) (a2 : Int) : Option (Bool) := if a0 ≥ a1 then (some (decide (a0 ≤ a2))) else (some false)
theorem aM.calls (a0 : Int) (a1 : Int) (a2 : Int) (r : Bool) (w : World) (h : aM.f a0 a1 a2 = some r) :
  Calls Tryz.prog 64 #[.int .i64 a0, .int .i64 a1, .int .i64 a2] w fun e w' => e = .returned (.bool r) ∧ Drawn0 w w' := by
 have H := h; clear h; unfold aM.f at H
 by_cases c4 : a0 ≥ a1
 ·rw [if_pos c4] at H; have c4b0 : decide (a1 ≤ a0) = true := decide_eq_true c4; clear c4; obtain rfl := si_ H; go_enter Tryz.func64, Tryz.ntmps64
  go_wp2; go_ret
  exact ⟨u4_, u3_⟩
 ·rw [if_neg c4] at H; have c4b0 : decide (a1 ≤ a0) = false := decide_eq_false c4; clear c4; obtain rfl := si_ H; go_enter Tryz.func64, Tryz.ntmps64
  go_wp2; go_ret
  exact ⟨u4_, u3_⟩
def aw.l0 : Nat → List ByteArray → ByteArray → Int → Int → Option (Int)
 | 0, _, _, _, _ => none
 | k + 1, x0, x1, x7, x8 => if x8 < x7 then (if 0 ≤ x8 then (if x8 < (x0.length : Int) then (if x1.toList = (eA ByteArray.empty x0 x8).toList then (some x8) else (aw.l0 k x0 x1 x7 (wrap64 (x8 + 1)))) else (none)) else (none)) else (some (-1))
def aw.f (k : Nat) (l0 : List ByteArray) (a1 : ByteArray) : Option (Int) := aw.l0 k l0 a1 (l0.length : Int) 0
theorem aw.calls (k : Nat) (A0 : Option Addr) (c0 : Nat) (l0 : List ByteArray) (a1 : ByteArray) (r : Int) (w : World) (hr0 : Kd.C Kd.string w A0 l0.length l0) (hc0 : l0.length ≤ c0) (h : aw.f k l0 a1 = some r) :
  Calls Tryz.prog 135 #[.slice A0 l0.length c0, .string a1] w fun e w' => e = .returned (.int .i64 r) ∧ Drawn0 w w' := by
 have HR0 := am_ hr0; have HC0 := am_ hc0; clear hr0 hc0; have H := h; clear h; unfold aw.f at H
 have H' := am_ H; clear H; go_enter Tryz.func135, Tryz.ntmps135
 go_wp2; go_loopg [8] k (fun kq v8 w' => ∃ (x8_1 : Int), v8 = .int .i64 x8_1 ∧ aa (aw.l0 kq l0 a1 (l0.length : Int) x8_1 = some r) ∧ aa (kq ≤ k) ∧ Drawn0 w w')
 case atStart => exact ⟨(0), u1_, H', ⟨Nat.le_refl _⟩, u3_⟩
 case round =>
  clear H'; obtain ⟨x8_1, rfl, HA, HK1, ⟨m1, rfl⟩⟩ := hrel; cases gk with
  | zero => exact absurd HA.out (by simp [aw.l0])
  | succ k1 =>
   have H := HA.out; clear HA; simp only [aw.l0] at H; by_cases c3 : x8_1 < (l0.length : Int)
   ·rw [if_pos c3] at H; have c3b0 := decide_eq_true c3; clear c3; obtain ⟨c4b0, H⟩ := gd_ H; obtain ⟨c5b0, H⟩ := gd_ H; have HC_ := am_ H; clear H; obtain ⟨ad101, e101, hx101_0⟩ := Kd.at_string HR0.out x8_1 od_ od_; cases e101; obtain ⟨p101, q101⟩ := pt_ x8_1 l0.length; have H := HC_.out; clear HC_; by_cases c6 : a1.toList = (eA ByteArray.empty l0 x8_1).toList
    ·rw [if_pos c6] at H; have c6b0 := cQ c6; have c6b1 := cO c6; clear c6; obtain rfl := si_ H; (first | rw [c6b0] | (simp only [ao, au]; rw [c6b0]) | skip)
     go_wp2; go_ret
     exact ⟨u4_, u3_⟩
    ·rw [if_neg c6] at H; have c6b0 := cT c6; have c6b1 := cV c6; have H' := am_ H; clear H; (first | rw [c6b0] | (simp only [ao, au]; rw [c6b0]) | skip)
     go_wp2; go_roundg k1
     case measure => have := HK1.out; omega
     case rel => exact ⟨(wrap64 (x8_1 + 1)), u1_, H', ⟨dc⟩, u3_⟩
   ·rw [if_neg c3] at H; have c3b0 := decide_eq_false c3; clear c3; obtain rfl := si_ H; go_wp2; go_ret
    exact ⟨u4_, u3_⟩
def al.f (k : Nat) (l0 : List ByteArray) (a1 : ByteArray) : Option (Bool) := (aw.f k l0 a1).bind fun t102 => (some (decide (t102 ≥ 0)))
theorem al.calls (k : Nat) (A0 : Option Addr) (c0 : Nat) (l0 : List ByteArray) (a1 : ByteArray) (r : Bool) (w : World) (hr0 : Kd.C Kd.string w A0 l0.length l0) (hc0 : l0.length ≤ c0) (h : al.f k l0 a1 = some r) :
  Calls Tryz.prog 92 #[.slice A0 l0.length c0, .string a1] w fun e w' => e = .returned (.bool r) ∧ Drawn0 w w' := by
 have HR0 := am_ hr0; have HC0 := am_ hc0; clear hr0 hc0; have H := h; clear h; unfold al.f at H
 obtain ⟨t102, A3, H⟩ := bi_ H; obtain rfl := si_ H; go_enter Tryz.func92, Tryz.ntmps92
 go_wp2_with (first | ((with_reducible refine gt_ 7 ?_); refine gD_ 7 Tryz.func135 (aw.calls k _ _ l0 a1 t102 _ ?side1 HC0.out A3.out) ?_; (case side1 => exact u33_); intro nd))
 go_ret
 exact ⟨u4_, u3_⟩
def dg.f (a0 : Int) : Option (Bool) := if a0 ≥ 97 then (some (decide (a0 ≤ 122))) else (some false)
theorem dg.calls (a0 : Int) (r : Bool) (w : World) (h : dg.f a0 = some r) :
  Calls Tryz.prog 133 #[.int .u8 a0] w fun e w' => e = .returned (.bool r) ∧ Drawn0 w w' := by
 have H := h; clear h; unfold dg.f at H
 by_cases c2 : a0 ≥ 97
 ·rw [if_pos c2] at H; have c2b0 : decide (97 ≤ a0) = true := decide_eq_true c2; clear c2; obtain rfl := si_ H; go_enter Tryz.func133, Tryz.ntmps133
  go_wp2; go_ret
  exact ⟨u4_, u3_⟩
 ·rw [if_neg c2] at H; have c2b0 : decide (97 ≤ a0) = false := decide_eq_false c2; clear c2; obtain rfl := si_ H; go_enter Tryz.func133, Tryz.ntmps133
  go_wp2; go_ret
  exact ⟨u4_, u3_⟩
def dD.f (a0 : Int) : Option (Bool) := if a0 ≥ 48 then (some (decide (a0 ≤ 57))) else (some false)
theorem dD.calls (a0 : Int) (r : Bool) (w : World) (h : dD.f a0 = some r) :
  Calls Tryz.prog 134 #[.int .u8 a0] w fun e w' => e = .returned (.bool r) ∧ Drawn0 w w' := by
 have H := h; clear h; unfold dD.f at H
 by_cases c2 : a0 ≥ 48
 ·rw [if_pos c2] at H; have c2b0 : decide (48 ≤ a0) = true := decide_eq_true c2; clear c2; obtain rfl := si_ H; go_enter Tryz.func134, Tryz.ntmps134
  go_wp2; go_ret
  exact ⟨u4_, u3_⟩
 ·rw [if_neg c2] at H; have c2b0 : decide (48 ≤ a0) = false := decide_eq_false c2; clear c2; obtain rfl := si_ H; go_enter Tryz.func134, Tryz.ntmps134
  go_wp2; go_ret
  exact ⟨u4_, u3_⟩
def ap.l0 : Nat → ByteArray → Int → Int → Option (Bool)
 | 0, _, _, _ => none
 | k + 1, x0, x5, x6 => if x6 < x5 then (if 0 ≤ x6 then (if x6 < (x0.size : Int) then ((dg.f (bt x0 x6)).bind fun t104 => (if t104 = true then (ap.l0 k x0 x5 (wrap64 (x6 + 1))) else (if x6 = 0 then (some false) else ((dD.f (bt x0 x6)).bind fun t105 => (if t105 = true then (ap.l0 k x0 x5 (wrap64 (x6 + 1))) else (some false)))))) else (none)) else (none)) else ((aM.f (x0.size : Int) 1 8).bind fun t103 => (some t103))
def ap.f (k : Nat) (a0 : ByteArray) : Option (Bool) := ap.l0 k a0 (a0.size : Int) 0
theorem ap.calls (k : Nat) (a0 : ByteArray) (r : Bool) (w : World) (h : ap.f k a0 = some r) :
  Calls Tryz.prog 108 #[.string a0] w fun e w' => e = .returned (.bool r) ∧ Drawn0 w w' := by
 have H := h; clear h; unfold ap.f at H
 have H' := am_ H; clear H; go_enter Tryz.func108, Tryz.ntmps108
 go_wp2; go_loopg [6] k (fun kq v6 w' => ∃ (x6_1 : Int), v6 = .int .i64 x6_1 ∧ aa (ap.l0 kq a0 (a0.size : Int) x6_1 = some r) ∧ aa (kq ≤ k) ∧ Drawn0 w w')
 case atStart => exact ⟨(0), u1_, H', ⟨Nat.le_refl _⟩, u3_⟩
 case round =>
  clear H'; obtain ⟨x6_1, rfl, HA, HK1, ⟨m1, rfl⟩⟩ := hrel; cases gk with
  | zero => exact absurd HA.out (by simp [ap.l0])
  | succ k1 =>
   have H := HA.out; clear HA; simp only [ap.l0] at H; by_cases c2 : x6_1 < (a0.size : Int)
   ·rw [if_pos c2] at H; have c2b0 := decide_eq_true c2; clear c2; obtain ⟨c3b0, H⟩ := gd_ H; obtain ⟨c4b0, H⟩ := gd_ H; obtain ⟨t104, A6, H⟩ := bi_ H; have HC_ := am_ H; clear H; obtain ⟨p5, q5⟩ := pq_ x6_1 a0.size; have hx5 := d7 a0 x6_1; obtain ⟨p5, q5⟩ := tt_ p5 q5; have H := HC_.out; clear HC_; cases t104
    ·replace H := hf_ H; have HC_ := am_ H; clear H; have H := HC_.out; clear HC_; by_cases c8 : x6_1 = 0
     ·rw [if_pos c8] at H; have c8b0 := cQ c8; have c8b1 := cO c8; clear c8; obtain rfl := si_ H; (first | rw [c8b0] | (simp only [ao, au]; rw [c8b0]) | skip)
      go_wp2_with (first | ((with_reducible refine gt_ 12 ?_); refine gD_ 12 Tryz.func133 (dg.calls (bt a0 x6_1) false _ A6.out) ?_; intro nd))
      go_ret
      exact ⟨u4_, u3_⟩
     ·rw [if_neg c8] at H; have c8b0 := cT c8; have c8b1 := cV c8; obtain ⟨t105, A10, H⟩ := bi_ H; have HC_ := am_ H; clear H; (first | rw [c8b0] | (simp only [ao, au]; rw [c8b0]) | skip)
      have H := HC_.out; clear HC_; cases t105
      ·replace H := hf_ H; obtain rfl := si_ H; go_wp2_with (first | ((with_reducible refine gt_ 12 ?_); refine gD_ 12 Tryz.func133 (dg.calls (bt a0 x6_1) false _ A6.out) ?_; intro nd; obtain ⟨p9, q9⟩ := pq_ x6_1 a0.size; have hx9 := d7 a0 x6_1; obtain ⟨p9, q9⟩ := tt_ p9 q9) | (go_at_call 134; (with_reducible refine (dD.calls (bt a0 x6_1) false _ A10.out).mono ?_); rintro e w' ⟨rfl, ⟨nd, rfl⟩⟩))
       go_ret
       exact ⟨u4_, u3_⟩
      ·replace H := ht_ H; have H' := am_ H; clear H; go_wp2_with (first | ((with_reducible refine gt_ 12 ?_); refine gD_ 12 Tryz.func133 (dg.calls (bt a0 x6_1) false _ A6.out) ?_; intro nd; obtain ⟨p9, q9⟩ := pq_ x6_1 a0.size; have hx9 := d7 a0 x6_1; obtain ⟨p9, q9⟩ := tt_ p9 q9) | (go_at_call 134; (with_reducible refine (dD.calls (bt a0 x6_1) true _ A10.out).mono ?_); rintro e w' ⟨rfl, ⟨nd, rfl⟩⟩))
       go_roundg k1
       case measure => have := HK1.out; omega
       case rel => exact ⟨(wrap64 (x6_1 + 1)), u1_, H', ⟨dc⟩, u3_⟩
    ·replace H := ht_ H; have H' := am_ H; clear H; go_wp2_with (first | ((with_reducible refine gt_ 12 ?_); refine gD_ 12 Tryz.func133 (dg.calls (bt a0 x6_1) true _ A6.out) ?_; intro nd))
     go_roundg k1
     case measure => have := HK1.out; omega
     case rel => exact ⟨(wrap64 (x6_1 + 1)), u1_, H', ⟨dc⟩, u3_⟩
   ·rw [if_neg c2] at H; have c2b0 := decide_eq_false c2; clear c2; obtain ⟨t103, A12, H⟩ := bi_ H; obtain rfl := si_ H; go_wp2_with (first | ((with_reducible refine gt_ 28 ?_); refine gD_ 28 Tryz.func64 (aM.calls (a0.size : Int) 1 8 t103 _ A12.out) ?_; intro nd))
    go_ret
    exact ⟨u4_, u3_⟩
mutual
def aC.l0 : Nat → List (S92) → List ByteArray → List (S92) → Int → Int → Option (Bool)
 | 0, _, _, _, _, _ => none
 | k + 1, x0, x3, x8, x9, x10 => if x10 < x9 then (if 0 ≤ x10 then (if x10 < (x8.length : Int) then (if ((an x8 x10).f1) = 1 then ((aM.f ((an x8 x10).f2) 1 9).bind fun t112 => (aC.j1 k x0 x3 t112 x8 x9 x10 ((an x8 x10).f0) ((an x8 x10).f1) ((an x8 x10).f2))) else (aC.j1 k x0 x3 (((an x8 x10).f2) == 0) x8 x9 x10 ((an x8 x10).f0) ((an x8 x10).f1) ((an x8 x10).f2))) else (none)) else (none)) else ((aM.f (x0.length : Int) 1 4).bind fun t109 => (some t109))
def aC.j1 : Nat → List (S92) → List ByteArray → Bool → List (S92) → Int → Int → ByteArray → Int → Int → Option (Bool)
 | 0, _, _, _, _, _, _, _, _, _ => none
 | k + 1, x0, x3, x6, x8, x9, x10, x112000, x112001, x112002 => (ap.f k x112000).bind fun t113 => (if t113 = true then ((al.f k x3 x112000).bind fun t114 => (if t114 = true then (some false) else ((aM.f x112001 1 3).bind fun t115 => (if t115 = true then (if x6 = true then (if x3.length < 8796093022208 then (aC.l0 k x0 (x3 ++ [x112000]) x8 x9 (wrap64 (x10 + 1))) else (none)) else (some false)) else (some false))))) else (some false))
end
def aC.f (k : Nat) (l0 : List (S92)) : Option (Bool) := aC.l0 k l0 (([] : List ByteArray)) l0 (l0.length : Int) 0
theorem aC.calls (k : Nat) (A0 : Option Addr) (c0 : Nat) (l0 : List (S92)) (r : Bool) (w : World) (hr0 : Kd.C k92 w A0 l0.length l0) (hc0 : l0.length ≤ c0) (h : aC.f k l0 = some r) :
  Calls Tryz.prog 63 #[.slice A0 l0.length c0] w fun e w' => e = .returned (.bool r) ∧ Below w.heap.size w w' := by
 have hu92 := Tryz.underlying92; have HR0 := am_ hr0; have HC0 := am_ hc0; clear hr0 hc0; have HB := am_ (Below.refl w.heap.size w); have H := h; clear h; unfold aC.f at H
 obtain ⟨y106, hy106⟩ : ∃ y_ : List ByteArray, y_ = (([] : List ByteArray)) := ⟨_, rfl⟩; replace H : (aC.l0 k l0 y106 l0 (l0.length : Int) 0) = some r := by first | (rw [hy106]; with_reducible exact H) | (have H2_ := (Option.bind_some _ _).symm.trans H; rw [hy106]; with_reducible exact H2_) | (have H2_ := (Option.bind_some _ _).symm.trans H; with_reducible exact H2_) | with_reducible exact H | (rw [hy106]; exact H) | exact H
 have Ny106 := am_ hy106; clear hy106; have H' := am_ H; clear H; go_enter Tryz.func63, Tryz.ntmps63
 go_wp2_with (first | ((with_reducible refine az (N := 7) rfl ?_); refine Kd.R_lit Kd.string _ 9 ?hg (N := 7) ?hd (xs := ([] : List ByteArray)) (inner := []) (ok := fun _ => True) (okp := fun _ => True) ?hr ?hp (fun _ hk => hk) trivial (Below.refl _ _) (Nat.le_refl _) cN ?_; (case hd => rfl); (case hg => rfl); (case hr => exact u6_); (case hp => exact gt); intro v107 w2 ho3 hb hg_ hnew_; clear hg_ hnew_; (first | rw [← Ny106.out] at ho3 | (simp only [Int.reduceToNat] at ho3; rw [← Ny106.out] at ho3)); have HO108 := am_ (Kd.R_lower ho3 (av (bw_ HB))); replace HB := bs_ HB hb; clear hb ho3))
 go_loopg [3, 10] k (fun kq v3 v10 w' => ∃ (x3_1 : List ByteArray) (x10_1 : Int), v10 = .int .i64 x10_1 ∧ aa (aC.l0 kq l0 x3_1 l0 (l0.length : Int) x10_1 = some r) ∧ aa (kq ≤ k) ∧ aa (Kd.R Kd.string 9 w' w.heap.size (fun _ => True) v3 x3_1) ∧ aa (Below w.heap.size w w'))
 case atStart => exact ⟨(y106), (0), u1_, H', ⟨Nat.le_refl _⟩, ⟨aR_ HO108.out⟩, ⟨bw_ HB⟩⟩
 case round =>
  clear H'; obtain ⟨x3_1, x10_1, rfl, HA, HK1, HO_3, HB⟩ := hrel; cases gk with
  | zero => exact absurd HA.out (by simp [aC.l0])
  | succ k1 =>
   have H := HA.out; clear HA; simp only [aC.l0] at H; by_cases c4 : x10_1 < (l0.length : Int)
   ·rw [if_pos c4] at H; have c4b0 := decide_eq_true c4; clear c4; obtain ⟨c5b0, H⟩ := gd_ H; obtain ⟨c6b0, H⟩ := gd_ H; have HC7 := am_ H; clear H; obtain ⟨ad110, e110, hx110_0, hx110_1, hx110_2⟩ := gH HR0.out x10_1 od_ od_; cases e110; replace hx110_0 := cb_ HB hx110_0; replace hx110_1 := cb_ HB hx110_1; replace hx110_2 := cb_ HB hx110_2; obtain ⟨p110, q110⟩ := pt_ x10_1 l0.length; go_upto_if 19 with (first | ((with_reducible refine gt_ 5 ?_); refine bx_ 5 #[.string (⟨#[]⟩ : ByteArray), .int .i64 0, .int .i64 0] 92 ?_; intro gb111 hg w8 hbox hb; replace HO_3 := am_ (Kd.R_below (aR_ HO_3.out) hb); have BK111 := am_ (hbox); have GE111 := gw_ HB hg; replace HB := bs_ HB hb; clear hb hbox hg; obtain ⟨hcz9_0, hcz9_1, hcz9_2, hfz9_0, hfz9_1, hfz9_2⟩ := bO BK111.out))
    (try simp only [Act.put, List.setIfInBounds_toArray, List.set_cons_zero, List.set_cons_succ])
    go_cut [6] (fun v6 wc => ∃ (kq : Nat) (x6_6 : Bool), v6 = .bool x6_6 ∧ aa (aC.j1 kq l0 x3_1 x6_6 l0 (l0.length : Int) x10_1 ((an l0 x10_1).f0) ((an l0 x10_1).f1) ((an l0 x10_1).f2) = some r) ∧ aa (kq ≤ k1) ∧ aa (Kd.R Kd.string 9 wc w.heap.size (fun _ => True) u3 x3_1) ∧ aa (wc.heap[gb111]? = some (.cells #[.string ((an l0 x10_1).f0), .int .i64 ((an l0 x10_1).f1), .int .i64 ((an l0 x10_1).f2)] 92 (0, 0))) ∧ aa (Below w.heap.size w wc))
    case first =>
     have H := HC7.out; clear HC7; by_cases c10 : ((an l0 x10_1).f1) = 1
     ·rw [if_pos c10] at H; have c10b0 := cQ c10; have c10b1 := cO c10; clear c10; (first | rw [c10b0] | (simp only [ao, au]; rw [c10b0]) | skip)
      obtain ⟨t112, A11, H⟩ := bi_ H; have H' := am_ H; clear H; obtain ⟨hcz12_0, hcz12_1, hcz12_2, hfz12_0, hfz12_1, hfz12_2⟩ := bO BK111.out; go_wp2_with (first | ((with_reducible refine gt_ 22 ?_); refine gD_ 22 Tryz.func64 (aM.calls ((an l0 x10_1).f2) 1 9 t112 _ A11.out) ?_; intro nd))
      go_meet
      case rel => exact ⟨_, (t112), u1_, H', ⟨u35_⟩, ⟨u77_⟩, ⟨pb_ BK111⟩, ⟨bw_ HB⟩⟩
     ·rw [if_neg c10] at H; have c10b0 := cT c10; have c10b1 := cV c10; (first | rw [c10b0] | (simp only [ao, au]; rw [c10b0]) | skip)
      have H' := am_ H; clear H; go_wp2; go_meet
      case rel => exact ⟨_, ((((an l0 x10_1).f2) == 0)), u1_, H', ⟨u35_⟩, ⟨u77_⟩, ⟨pb_ BK111⟩, ⟨bw_ HB⟩⟩
    case rest =>
     clear HC7; try clear c4
     try clear c4b0
     try clear c5b0
     try clear c6b0
     try clear hcz9_0 hcz9_1 hcz9_2 hfz9_0 hfz9_1 hfz9_2
     try clear hx110_0
     try clear hx110_1
     try clear hx110_2
     try clear p110
     try clear q110
     obtain ⟨kq, x6_6, rfl, HA, HJ6, HO_3, BK111, HB⟩ := hcut; cases kq with
     | zero => exact absurd HA.out (by simp [aC.j1])
     | succ kj6 =>
      have H := HA.out; clear HA; simp only [aC.j1] at H; obtain ⟨t113, A13, H⟩ := bi_ H; cases t113
      ·replace H := hf_ H; obtain rfl := si_ H; obtain ⟨hcz30_0, hcz30_1, hcz30_2, hfz30_0, hfz30_1, hfz30_2⟩ := bO BK111.out; go_wp2_with (first | ((with_reducible refine gt_ 25 ?_); refine gD_ 25 Tryz.func108 (ap.calls kj6 ((an l0 x10_1).f0) false _ A13.out) ?_; intro nd))
       go_ret
       exact ⟨u0_, bw_ HB⟩
      ·replace H := ht_ H; obtain ⟨t114, A15, H⟩ := bi_ H; cases t114
       ·replace H := hf_ H; obtain ⟨t115, A19, H⟩ := bi_ H; cases t115
        ·replace H := hf_ H; obtain rfl := si_ H; obtain ⟨hcz28_0, hcz28_1, hcz28_2, hfz28_0, hfz28_1, hfz28_2⟩ := bO BK111.out; go_wp2_with (first | ((with_reducible refine gt_ 25 ?_); refine gD_ 25 Tryz.func108 (ap.calls kj6 ((an l0 x10_1).f0) true _ A13.out) ?_; intro nd; obtain ⟨Ao29, co29, eo29⟩ := Kd.R_slice HO_3.out; subst eo29) | (go_at_call 92; (with_reducible refine (al.calls kj6 _ _ x3_1 ((an l0 x10_1).f0) false _ (kR_ HO_3) ?side2 A15.out).mono ?_); (case side2 => exact (Kd.R_reads' HO_3.out).2.1); rintro e w' ⟨rfl, ⟨nd, rfl⟩⟩) | (go_at_call 64; (with_reducible refine (aM.calls ((an l0 x10_1).f1) 1 3 false _ A19.out).mono ?_); rintro e w' ⟨rfl, ⟨nd, rfl⟩⟩))
         go_ret
         exact ⟨u0_, bw_ HB⟩
        ·replace H := ht_ H; cases x6_6
         ·replace H := hf_ H; obtain rfl := si_ H; obtain ⟨hcz26_0, hcz26_1, hcz26_2, hfz26_0, hfz26_1, hfz26_2⟩ := bO BK111.out; go_wp2_with (first | ((with_reducible refine gt_ 25 ?_); refine gD_ 25 Tryz.func108 (ap.calls kj6 ((an l0 x10_1).f0) true _ A13.out) ?_; intro nd; obtain ⟨Ao27, co27, eo27⟩ := Kd.R_slice HO_3.out; subst eo27) | (go_at_call 92; (with_reducible refine (al.calls kj6 _ _ x3_1 ((an l0 x10_1).f0) false _ (kR_ HO_3) ?side2 A15.out).mono ?_); (case side2 => exact (Kd.R_reads' HO_3.out).2.1); rintro e w' ⟨rfl, ⟨nd, rfl⟩⟩) | (go_at_call 64; (with_reducible refine (aM.calls ((an l0 x10_1).f1) 1 3 true _ A19.out).mono ?_); rintro e w' ⟨rfl, ⟨nd, rfl⟩⟩))
          go_ret
          exact ⟨u0_, bw_ HB⟩
         ·replace H := ht_ H; obtain ⟨LMc22, H⟩ := gl_ H; generalize hy116 : ((x3_1 ++ [((an l0 x10_1).f0)]) : List ByteArray) = y116 at H; have Ny116 := am_ hy116.symm; clear hy116; have H' := am_ H; clear H; obtain ⟨hcz23_0, hcz23_1, hcz23_2, hfz23_0, hfz23_1, hfz23_2⟩ := bO BK111.out; go_wp2_with (first | ((with_reducible refine gt_ 25 ?_); refine gD_ 25 Tryz.func108 (ap.calls kj6 ((an l0 x10_1).f0) true _ A13.out) ?_; intro nd; obtain ⟨Ao24, co24, eo24⟩ := Kd.R_slice HO_3.out; subst eo24) | (go_at_call 92; (with_reducible refine (al.calls kj6 _ _ x3_1 ((an l0 x10_1).f0) false _ (kR_ HO_3) ?side2 A15.out).mono ?_); (case side2 => exact (Kd.R_reads' HO_3.out).2.1); rintro e w' ⟨rfl, ⟨nd, rfl⟩⟩) | (go_at_call 64; (with_reducible refine (aM.calls ((an l0 x10_1).f1) 1 3 true _ A19.out).mono ?_); rintro e w' ⟨rfl, ⟨nd, rfl⟩⟩) | ((with_reducible refine bM (b := .append) (xs := #[.tmp 43, .tmp 46]) rfl ?_); at_builtin; refine Kd.R_append Kd.string (w0 := w) w.heap.size rfl (.tmp 43) (.tmp 46) 30 9 (.string ⟨#[]⟩) 16 rfl Tryz.underlying30 eD rfl bs u7_ (.slice Ao24 x3_1.length co24) x3_1 ((an l0 x10_1).f0) [.string ((an l0 x10_1).f0)] (fun _ => True) (fun _ => False) rfl rfl ?aP (fun _ hk => hk.elim) ?aF ?aO ?aB ?aS ?aL ?_; (case aP => exact rfl); (case aB => exact fG); (case aF => exact j4); (case aO => exact om); (case aS => exact fH); (case aL => have := LMc22.out; omega); intro v117 w25 ho hb hg hat; rw [← Ny116.out] at ho; replace HB := am_ (hb); have HO118 := am_ (ho); clear HO_3 ho hb hg hat))
          go_roundg kj6
          case measure => have := HK1.out; have := HJ6.out; omega
          case rel => exact ⟨(y116), (wrap64 (x10_1 + 1)), u1_, H', ⟨by have := HK1.out; have := HJ6.out; omega⟩, ⟨aR_ HO118.out⟩, ⟨bw_ HB⟩⟩
       ·replace H := ht_ H; obtain rfl := si_ H; obtain ⟨hcz17_0, hcz17_1, hcz17_2, hfz17_0, hfz17_1, hfz17_2⟩ := bO BK111.out; go_wp2_with (first | ((with_reducible refine gt_ 25 ?_); refine gD_ 25 Tryz.func108 (ap.calls kj6 ((an l0 x10_1).f0) true _ A13.out) ?_; intro nd; obtain ⟨Ao18, co18, eo18⟩ := Kd.R_slice HO_3.out; subst eo18) | (go_at_call 92; (with_reducible refine (al.calls kj6 _ _ x3_1 ((an l0 x10_1).f0) true _ (kR_ HO_3) ?side2 A15.out).mono ?_); (case side2 => exact (Kd.R_reads' HO_3.out).2.1); rintro e w' ⟨rfl, ⟨nd, rfl⟩⟩))
        go_ret
        exact ⟨u0_, bw_ HB⟩
   ·rw [if_neg c4] at H; have c4b0 := decide_eq_false c4; clear c4; obtain ⟨t109, A31, H⟩ := bi_ H; obtain rfl := si_ H; go_wp2_with (first | ((with_reducible refine gt_ 51 ?_); refine gD_ 51 Tryz.func64 (aM.calls (l0.length : Int) 1 4 t109 _ A31.out) ?_; intro nd))
    go_ret
    exact ⟨u0_, bw_ HB⟩
def cJ.l0 : Nat → ByteArray → Int → Int → Int → Option (Bool)
 | 0, _, _, _, _ => none
 | k + 1, x0, x1, x7, x8 => if x8 < x7 then (if 0 ≤ x8 then (if x8 < (x0.size : Int) then ((aM.f (wrap64 (bt x0 x8)) 32 126).bind fun t119 => (if t119 = true then (cJ.l0 k x0 x1 x7 (wrap64 (x8 + 1))) else (some false))) else (none)) else (none)) else (some (decide ((x0.size : Int) ≤ x1)))
def cJ.f (k : Nat) (a0 : ByteArray) (a1 : Int) : Option (Bool) := cJ.l0 k a0 a1 (a0.size : Int) 0
theorem cJ.calls (k : Nat) (a0 : ByteArray) (a1 : Int) (r : Bool) (w : World) (h : cJ.f k a0 a1 = some r) :
  Calls Tryz.prog 166 #[.string a0, .int .i64 a1] w fun e w' => e = .returned (.bool r) ∧ Drawn0 w w' := by
 have H := h; clear h; unfold cJ.f at H
 have H' := am_ H; clear H; go_enter Tryz.func166, Tryz.ntmps166
 go_wp2; go_loopg [8] k (fun kq v8 w' => ∃ (x8_1 : Int), v8 = .int .i64 x8_1 ∧ aa (cJ.l0 kq a0 a1 (a0.size : Int) x8_1 = some r) ∧ aa (kq ≤ k) ∧ Drawn0 w w')
 case atStart => exact ⟨(0), u1_, H', ⟨Nat.le_refl _⟩, u3_⟩
 case round =>
  clear H'; obtain ⟨x8_1, rfl, HA, HK1, ⟨m1, rfl⟩⟩ := hrel; cases gk with
  | zero => exact absurd HA.out (by simp [cJ.l0])
  | succ k1 =>
   have H := HA.out; clear HA; simp only [cJ.l0] at H; by_cases c3 : x8_1 < (a0.size : Int)
   ·rw [if_pos c3] at H; have c3b0 := decide_eq_true c3; clear c3; obtain ⟨c4b0, H⟩ := gd_ H; obtain ⟨c5b0, H⟩ := gd_ H; obtain ⟨t119, A7, H⟩ := bi_ H; have HC_ := am_ H; clear H; obtain ⟨p6, q6⟩ := pq_ x8_1 a0.size; have hx6 := d7 a0 x8_1; obtain ⟨p6, q6⟩ := tt_ p6 q6; have H := HC_.out; clear HC_; cases t119
    ·replace H := hf_ H; obtain rfl := si_ H; go_wp2_with (first | ((with_reducible refine gt_ 15 ?_); refine gD_ 15 Tryz.func64 (aM.calls (wrap64 (bt a0 x8_1)) 32 126 false _ A7.out) ?_; intro nd))
     go_ret
     exact ⟨u4_, u3_⟩
    ·replace H := ht_ H; have H' := am_ H; clear H; go_wp2_with (first | ((with_reducible refine gt_ 15 ?_); refine gD_ 15 Tryz.func64 (aM.calls (wrap64 (bt a0 x8_1)) 32 126 true _ A7.out) ?_; intro nd))
     go_roundg k1
     case measure => have := HK1.out; omega
     case rel => exact ⟨(wrap64 (x8_1 + 1)), u1_, H', ⟨dc⟩, u3_⟩
   ·rw [if_neg c3] at H; have c3b0 := decide_eq_false c3; clear c3; obtain rfl := si_ H; go_wp2; go_ret
    exact ⟨u4_, u3_⟩
def b4.f (k : Nat) (a0 : ByteArray) : Option (Bool) := (cJ.f k a0 60).bind fun t120 => (some t120)
theorem b4.calls (k : Nat) (a0 : ByteArray) (r : Bool) (w : World) (h : b4.f k a0 = some r) :
  Calls Tryz.prog 147 #[.string a0] w fun e w' => e = .returned (.bool r) ∧ Drawn0 w w' := by
 have H := h; clear h; unfold b4.f at H
 obtain ⟨t120, A2, H⟩ := bi_ H; obtain rfl := si_ H; go_enter Tryz.func147, Tryz.ntmps147
 go_wp2_with (first | ((with_reducible refine gt_ 4 ?_); refine gD_ 4 Tryz.func166 (cJ.calls k a0 60 t120 _ A2.out) ?_; intro nd))
 go_ret
 exact ⟨u4_, u3_⟩
def bl.l0 : Nat → List (S86) → Int → Int → ByteArray → List (S86) → Option (Bool)
 | 0, _, _, _, _, _ => none
 | k + 1, x6, x7, x8, x122000, x122001 => if x8 < x7 then (if 0 ≤ x8 then (if x8 < (x6.length : Int) then ((ap.f k ((ah x6 x8).f0)).bind fun t125 => (if t125 = true then ((b4.f k ((ah x6 x8).f1)).bind fun t126 => (if t126 = true then (if x8 > 0 then (if 0 ≤ (wrap64 (x8 - 1)) then (if (wrap64 (x8 - 1)) < (x122001.length : Int) then (if ((Op.bytesLess (((ah x122001 (wrap64 (x8 - 1))).f0).toList) (((ah x6 x8).f0).toList)) = true) then (bl.l0 k x6 x7 (wrap64 (x8 + 1)) x122000 x122001) else (some false)) else (none)) else (none)) else (bl.l0 k x6 x7 (wrap64 (x8 + 1)) x122000 x122001)) else (some false))) else (some false))) else (none)) else (none)) else ((ap.f k x122000).bind fun t122 => (if t122 = true then (some (decide ((x122001.length : Int) ≤ 4))) else (some false)))
def bl.f (k : Nat) (a0_0 : ByteArray) (l0_1 : List (S86)) : Option (Bool) := bl.l0 k l0_1 (l0_1.length : Int) 0 a0_0 l0_1
theorem bl.calls (k : Nat) (a0_0 : ByteArray) (A0_1 : Option Addr) (c0_1 : Nat) (l0_1 : List (S86)) (r : Bool) (w : World) (hr0_1 : Kd.C k86 w A0_1 l0_1.length l0_1) (hc0_1 : l0_1.length ≤ c0_1) (h : bl.f k a0_0 l0_1 = some r) :
  Calls Tryz.prog 109 #[.agg #[.string a0_0, .slice A0_1 l0_1.length c0_1]] w fun e w' => e = .returned (.bool r) ∧ Below w.heap.size w w' := by
 have hu44 := Tryz.underlying44; have hu86 := Tryz.underlying86; have HR0_1 := am_ hr0_1; have HC0_1 := am_ hc0_1; clear hr0_1 hc0_1; have HB := am_ (Below.refl w.heap.size w); have H := h; clear h; unfold bl.f at H
 have H' := am_ H; clear H; go_enter Tryz.func109, Tryz.ntmps109
 go_wp2_with (first | ((with_reducible refine az (N := 1) rfl ?_); (try (refine a6 cI ?_; dsimp only)); refine bu ?hg (N := 1) ?hd (cs := #[.string a0_0, .slice A0_1 l0_1.length c0_1]) (t := 44) ?hr ?_; (case hd => rfl); (case hg => rfl); (case hr => exact u6_); intro gb121 hg w2 hbox hb; have BK121 := am_ (hbox); have GE121 := gw_ HB hg; replace HB := bs_ HB hb; clear hb hbox hg; obtain ⟨hcz3_0, hcz3_1, hfz3_0, hfz3_1⟩ := bK BK121.out))
 repeat (go_quiet (first | ((with_reducible refine az (N := 1) rfl ?_); (try (refine a6 cI ?_; dsimp only)); refine bu ?hg (N := 1) ?hd (cs := #[.string a0_0, .slice A0_1 l0_1.length c0_1]) (t := 44) ?hr ?_; (case hd => rfl); (case hg => rfl); (case hr => exact u6_); intro gb121 hg w2 hbox hb; have BK121 := am_ (hbox); have GE121 := gw_ HB hg; replace HB := bs_ HB hb; clear hb hbox hg; obtain ⟨hcz3_0, hcz3_1, hfz3_0, hfz3_1⟩ := bK BK121.out)); try go_wp2_with (first | ((with_reducible refine az (N := 1) rfl ?_); (try (refine a6 cI ?_; dsimp only)); refine bu ?hg (N := 1) ?hd (cs := #[.string a0_0, .slice A0_1 l0_1.length c0_1]) (t := 44) ?hr ?_; (case hd => rfl); (case hg => rfl); (case hr => exact u6_); intro gb121 hg w2 hbox hb; have BK121 := am_ (hbox); have GE121 := gw_ HB hg; replace HB := bs_ HB hb; clear hb hbox hg; obtain ⟨hcz3_0, hcz3_1, hfz3_0, hfz3_1⟩ := bK BK121.out)))
 go_loopg [8] k (fun kq v8 w' => ∃ (x8_1 : Int), v8 = .int .i64 x8_1 ∧ aa (bl.l0 kq l0_1 (l0_1.length : Int) x8_1 a0_0 l0_1 = some r) ∧ aa (kq ≤ k) ∧ aa (w'.heap[gb121]? = some (.cells #[.string a0_0, (.slice A0_1 l0_1.length c0_1)] 44 (0, 0))) ∧ aa (Below w.heap.size w w'))
 case atStart => exact ⟨(0), u1_, H', ⟨Nat.le_refl _⟩, ⟨pb_ BK121⟩, ⟨bw_ HB⟩⟩
 case round =>
  clear H'; try clear hcz3_0 hcz3_1 hfz3_0 hfz3_1
  obtain ⟨x8_1, rfl, HA, HK1, BK121, HB⟩ := hrel; cases gk with
  | zero => exact absurd HA.out (by simp [bl.l0])
  | succ k1 =>
   have H := HA.out; clear HA; simp only [bl.l0] at H; by_cases c4 : x8_1 < (l0_1.length : Int)
   ·rw [if_pos c4] at H; have c4b0 := decide_eq_true c4; clear c4; obtain ⟨c5b0, H⟩ := gd_ H; obtain ⟨c6b0, H⟩ := gd_ H; obtain ⟨t125, A7, H⟩ := bi_ H; have HC_ := am_ H; clear H; obtain ⟨ad123, e123, hx123_0, hx123_1⟩ := dp HR0_1.out x8_1 od_ od_; cases e123; replace hx123_0 := cb_ HB hx123_0; replace hx123_1 := cb_ HB hx123_1; obtain ⟨p123, q123⟩ := pt_ x8_1 l0_1.length; have H := HC_.out; clear HC_; cases t125
    ·replace H := hf_ H; obtain rfl := si_ H; go_wp2_with (first | ((with_reducible refine az (N := 4) rfl ?_); (try (refine a6 cI ?_; dsimp only)); refine bu ?hg (N := 4) ?hd (cs := #[.string (⟨#[]⟩ : ByteArray), .string (⟨#[]⟩ : ByteArray)]) (t := 86) ?hr ?_; (case hd => rfl); (case hg => rfl); (case hr => exact u6_); intro gb124 hg w30 hbox hb; have BK124 := am_ (hbox); have GW124 := gw_ HB hg; have GE124 := GW124; replace HB := bs_ HB hb; have NB121_124 := nl_ BK121 hg; have NB124_121 := ng_ BK121 hg; replace BK121 := bb_ BK121 hb; clear hb hbox hg; have hnb31 := NB124_121.out; have hnc31 := NB121_124.out; obtain ⟨hcz32_0, hcz32_1, hfz32_0, hfz32_1⟩ := bK BK124.out) | (go_at_call 108; (with_reducible refine (ap.calls k1 ((ah l0_1 x8_1).f0) false _ A7.out).mono ?_); rintro e w' ⟨rfl, ⟨nd, rfl⟩⟩; (try first | exact ⟨rfl, _, World.drewN_drewN _ _ _⟩ | exact ⟨rfl, _, Eq.trans (World.drewN_drewN _ _ _) (congrArg (World.drewN _) (Nat.add_assoc _ _ _))⟩)))
     repeat (go_quiet (first | ((with_reducible refine az (N := 4) rfl ?_); (try (refine a6 cI ?_; dsimp only)); refine bu ?hg (N := 4) ?hd (cs := #[.string (⟨#[]⟩ : ByteArray), .string (⟨#[]⟩ : ByteArray)]) (t := 86) ?hr ?_; (case hd => rfl); (case hg => rfl); (case hr => exact u6_); intro gb124 hg w30 hbox hb; have BK124 := am_ (hbox); have GW124 := gw_ HB hg; have GE124 := GW124; replace HB := bs_ HB hb; have NB121_124 := nl_ BK121 hg; have NB124_121 := ng_ BK121 hg; replace BK121 := bb_ BK121 hb; clear hb hbox hg; have hnb31 := NB124_121.out; have hnc31 := NB121_124.out; obtain ⟨hcz32_0, hcz32_1, hfz32_0, hfz32_1⟩ := bK BK124.out) | (go_at_call 108; (with_reducible refine (ap.calls k1 ((ah l0_1 x8_1).f0) false _ A7.out).mono ?_); rintro e w' ⟨rfl, ⟨nd, rfl⟩⟩; (try first | exact ⟨rfl, _, World.drewN_drewN _ _ _⟩ | exact ⟨rfl, _, Eq.trans (World.drewN_drewN _ _ _) (congrArg (World.drewN _) (Nat.add_assoc _ _ _))⟩))); try go_wp2_with (first | ((with_reducible refine az (N := 4) rfl ?_); (try (refine a6 cI ?_; dsimp only)); refine bu ?hg (N := 4) ?hd (cs := #[.string (⟨#[]⟩ : ByteArray), .string (⟨#[]⟩ : ByteArray)]) (t := 86) ?hr ?_; (case hd => rfl); (case hg => rfl); (case hr => exact u6_); intro gb124 hg w30 hbox hb; have BK124 := am_ (hbox); have GW124 := gw_ HB hg; have GE124 := GW124; replace HB := bs_ HB hb; have NB121_124 := nl_ BK121 hg; have NB124_121 := ng_ BK121 hg; clear hb hbox hg; have hnb31 := NB124_121.out; have hnc31 := NB121_124.out; obtain ⟨hcz32_0, hcz32_1, hfz32_0, hfz32_1⟩ := bK BK124.out) | (go_at_call 108; (with_reducible refine (ap.calls k1 ((ah l0_1 x8_1).f0) false _ A7.out).mono ?_); rintro e w' ⟨rfl, ⟨nd, rfl⟩⟩; (try first | exact ⟨rfl, _, World.drewN_drewN _ _ _⟩ | exact ⟨rfl, _, Eq.trans (World.drewN_drewN _ _ _) (congrArg (World.drewN _) (Nat.add_assoc _ _ _))⟩))))
     go_ret
     exact ⟨u0_, bw_ HB⟩
    ·replace H := ht_ H; obtain ⟨t126, A9, H⟩ := bi_ H; have HC_ := am_ H; clear H; have H := HC_.out; clear HC_; cases t126
     ·replace H := hf_ H; obtain rfl := si_ H; go_wp2_with (first | ((with_reducible refine az (N := 4) rfl ?_); (try (refine a6 cI ?_; dsimp only)); refine bu ?hg (N := 4) ?hd (cs := #[.string (⟨#[]⟩ : ByteArray), .string (⟨#[]⟩ : ByteArray)]) (t := 86) ?hr ?_; (case hd => rfl); (case hg => rfl); (case hr => exact u6_); intro gb124 hg w27 hbox hb; have BK124 := am_ (hbox); have GW124 := gw_ HB hg; have GE124 := GW124; replace HB := bs_ HB hb; have NB121_124 := nl_ BK121 hg; have NB124_121 := ng_ BK121 hg; replace BK121 := bb_ BK121 hb; clear hb hbox hg; have hnb28 := NB124_121.out; have hnc28 := NB121_124.out; obtain ⟨hcz29_0, hcz29_1, hfz29_0, hfz29_1⟩ := bK BK124.out) | (go_at_call 108; (with_reducible refine (ap.calls k1 ((ah l0_1 x8_1).f0) true _ A7.out).mono ?_); rintro e w' ⟨rfl, ⟨nd, rfl⟩⟩; (try first | exact ⟨rfl, _, World.drewN_drewN _ _ _⟩ | exact ⟨rfl, _, Eq.trans (World.drewN_drewN _ _ _) (congrArg (World.drewN _) (Nat.add_assoc _ _ _))⟩)) | (go_at_call 147; (with_reducible refine (b4.calls k1 ((ah l0_1 x8_1).f1) false _ A9.out).mono ?_); rintro e w' ⟨rfl, ⟨nd, rfl⟩⟩; (try first | exact ⟨rfl, _, World.drewN_drewN _ _ _⟩ | exact ⟨rfl, _, Eq.trans (World.drewN_drewN _ _ _) (congrArg (World.drewN _) (Nat.add_assoc _ _ _))⟩)))
      repeat (go_quiet (first | ((with_reducible refine az (N := 4) rfl ?_); (try (refine a6 cI ?_; dsimp only)); refine bu ?hg (N := 4) ?hd (cs := #[.string (⟨#[]⟩ : ByteArray), .string (⟨#[]⟩ : ByteArray)]) (t := 86) ?hr ?_; (case hd => rfl); (case hg => rfl); (case hr => exact u6_); intro gb124 hg w27 hbox hb; have BK124 := am_ (hbox); have GW124 := gw_ HB hg; have GE124 := GW124; replace HB := bs_ HB hb; have NB121_124 := nl_ BK121 hg; have NB124_121 := ng_ BK121 hg; replace BK121 := bb_ BK121 hb; clear hb hbox hg; have hnb28 := NB124_121.out; have hnc28 := NB121_124.out; obtain ⟨hcz29_0, hcz29_1, hfz29_0, hfz29_1⟩ := bK BK124.out) | (go_at_call 108; (with_reducible refine (ap.calls k1 ((ah l0_1 x8_1).f0) true _ A7.out).mono ?_); rintro e w' ⟨rfl, ⟨nd, rfl⟩⟩; (try first | exact ⟨rfl, _, World.drewN_drewN _ _ _⟩ | exact ⟨rfl, _, Eq.trans (World.drewN_drewN _ _ _) (congrArg (World.drewN _) (Nat.add_assoc _ _ _))⟩)) | (go_at_call 147; (with_reducible refine (b4.calls k1 ((ah l0_1 x8_1).f1) false _ A9.out).mono ?_); rintro e w' ⟨rfl, ⟨nd, rfl⟩⟩; (try first | exact ⟨rfl, _, World.drewN_drewN _ _ _⟩ | exact ⟨rfl, _, Eq.trans (World.drewN_drewN _ _ _) (congrArg (World.drewN _) (Nat.add_assoc _ _ _))⟩))); try go_wp2_with (first | ((with_reducible refine az (N := 4) rfl ?_); (try (refine a6 cI ?_; dsimp only)); refine bu ?hg (N := 4) ?hd (cs := #[.string (⟨#[]⟩ : ByteArray), .string (⟨#[]⟩ : ByteArray)]) (t := 86) ?hr ?_; (case hd => rfl); (case hg => rfl); (case hr => exact u6_); intro gb124 hg w27 hbox hb; have BK124 := am_ (hbox); have GW124 := gw_ HB hg; have GE124 := GW124; replace HB := bs_ HB hb; have NB121_124 := nl_ BK121 hg; have NB124_121 := ng_ BK121 hg; clear hb hbox hg; have hnb28 := NB124_121.out; have hnc28 := NB121_124.out; obtain ⟨hcz29_0, hcz29_1, hfz29_0, hfz29_1⟩ := bK BK124.out) | (go_at_call 108; (with_reducible refine (ap.calls k1 ((ah l0_1 x8_1).f0) true _ A7.out).mono ?_); rintro e w' ⟨rfl, ⟨nd, rfl⟩⟩; (try first | exact ⟨rfl, _, World.drewN_drewN _ _ _⟩ | exact ⟨rfl, _, Eq.trans (World.drewN_drewN _ _ _) (congrArg (World.drewN _) (Nat.add_assoc _ _ _))⟩)) | (go_at_call 147; (with_reducible refine (b4.calls k1 ((ah l0_1 x8_1).f1) false _ A9.out).mono ?_); rintro e w' ⟨rfl, ⟨nd, rfl⟩⟩; (try first | exact ⟨rfl, _, World.drewN_drewN _ _ _⟩ | exact ⟨rfl, _, Eq.trans (World.drewN_drewN _ _ _) (congrArg (World.drewN _) (Nat.add_assoc _ _ _))⟩))))
      go_ret
      exact ⟨u0_, bw_ HB⟩
     ·replace H := ht_ H; have HC_ := am_ H; clear H; have H := HC_.out; clear HC_; by_cases c11 : x8_1 > 0
      ·rw [if_pos c11] at H; have c11b0 : decide (0 < x8_1) = true := decide_eq_true c11; clear c11; obtain ⟨ji12, hji12⟩ : ∃ j_ : Int, (wrap64 (x8_1 - 1)) = j_ := ⟨_, rfl⟩; replace H : (if 0 ≤ (ji12) then (if (ji12) < (l0_1.length : Int) then (if ((Op.bytesLess (((ah l0_1 (ji12)).f0).toList) (((ah l0_1 x8_1).f0).toList)) = true) then (bl.l0 k1 l0_1 (l0_1.length : Int) (wrap64 (x8_1 + 1)) a0_0 l0_1) else (some false)) else (none)) else (none)) = some r := by first | (rw [hji12] at H; exact H) | (simp only [hji12] at H ⊢; exact H)
       (try rw [hji12] at A7)
       (try rw [hji12] at A9)
       have hji12w : (IntKind.i64.wrap (x8_1 - 1)) = ji12 := (ao _).trans hji12; obtain ⟨c13b0, H⟩ := gd_ H; obtain ⟨c14b0, H⟩ := gd_ H; have HC_ := am_ H; clear H; (first | rw [c11b0] | (simp only [ao, au]; rw [c11b0]) | skip)
       have H := HC_.out; clear HC_; by_cases c15 : ((Op.bytesLess (((ah l0_1 (ji12)).f0).toList) (((ah l0_1 x8_1).f0).toList)) = true)
       ·rw [if_pos c15] at H; have c15b0 : (Op.bytesLess (((ah l0_1 (ji12)).f0).toList) (((ah l0_1 x8_1).f0).toList)) = true := c15; clear c15; have H' := am_ H; clear H; (first | rw [c15b0] | (simp only [ao, au]; rw [c15b0]) | skip)
        go_wp2_with (first | ((with_reducible refine az (N := 4) rfl ?_); (try (refine a6 cI ?_; dsimp only)); refine bu ?hg (N := 4) ?hd (cs := #[.string (⟨#[]⟩ : ByteArray), .string (⟨#[]⟩ : ByteArray)]) (t := 86) ?hr ?_; (case hd => rfl); (case hg => rfl); (case hr => exact u6_); intro gb124 hg w16 hbox hb; have BK124 := am_ (hbox); have GW124 := gw_ HB hg; have GE124 := GW124; replace HB := bs_ HB hb; have NB121_124 := nl_ BK121 hg; have NB124_121 := ng_ BK121 hg; replace BK121 := bb_ BK121 hb; clear hb hbox hg; have hnb17 := NB124_121.out; have hnc17 := NB121_124.out; obtain ⟨hcz18_0, hcz18_1, hfz18_0, hfz18_1⟩ := bK BK124.out) | (go_at_call 108; (with_reducible refine (ap.calls k1 ((ah l0_1 x8_1).f0) true _ A7.out).mono ?_); rintro e w' ⟨rfl, ⟨nd, rfl⟩⟩; (try first | exact ⟨rfl, _, World.drewN_drewN _ _ _⟩ | exact ⟨rfl, _, Eq.trans (World.drewN_drewN _ _ _) (congrArg (World.drewN _) (Nat.add_assoc _ _ _))⟩)) | (go_at_call 147; (with_reducible refine (b4.calls k1 ((ah l0_1 x8_1).f1) true _ A9.out).mono ?_); rintro e w' ⟨rfl, ⟨nd, rfl⟩⟩; (try first | exact ⟨rfl, _, World.drewN_drewN _ _ _⟩ | exact ⟨rfl, _, Eq.trans (World.drewN_drewN _ _ _) (congrArg (World.drewN _) (Nat.add_assoc _ _ _))⟩); obtain ⟨hcz19_0, hcz19_1, hfz19_0, hfz19_1⟩ := bK BK121.out; obtain ⟨p127, q127⟩ := pq_ (ji12) l0_1.length; obtain ⟨ad127, e127, hx127_0, hx127_1⟩ := dp HR0_1.out (ji12) p127 q127; obtain rfl : ad123 = ad127 := (by injection e127); have hn127_0 : ad123.block ≠ gb124 := Nat.ne_of_lt (Nat.lt_of_lt_of_le j3 GW124.out); have hn127_1 : ad123.block ≠ gb124 := Nat.ne_of_lt (Nat.lt_of_lt_of_le j3 GW124.out); replace hx127_0 := cb_ HB hx127_0; replace hx127_1 := cb_ HB hx127_1; replace hx127_0 := (aH (p := ⟨gb124, 0, none⟩) u8_ (.string ((ah l0_1 x8_1).f0))).trans hx127_0; replace hx127_1 := (aH (p := ⟨gb124, 0, none⟩) u8_ (.string ((ah l0_1 x8_1).f0))).trans hx127_1; replace hx127_0 := (aH (p := ⟨gb124, 1, none⟩) u9_ (.string ((ah l0_1 x8_1).f1))).trans hx127_0; replace hx127_1 := (aH (p := ⟨gb124, 1, none⟩) u9_ (.string ((ah l0_1 x8_1).f1))).trans hx127_1; (try have hy127_0 := fun (n_ : Nat) => (show ((((w16.drewN n_).setCell ⟨gb124, 0, none⟩ (.string ((ah l0_1 x8_1).f0))).setCell ⟨gb124, 1, none⟩ (.string ((ah l0_1 x8_1).f1)))).cell? _ = some _ from hx127_0)); (try have hy127_1 := fun (n_ : Nat) => (show ((((w16.drewN n_).setCell ⟨gb124, 0, none⟩ (.string ((ah l0_1 x8_1).f0))).setCell ⟨gb124, 1, none⟩ (.string ((ah l0_1 x8_1).f1)))).cell? _ = some _ from hx127_1)); clear hn127_0 hn127_1; obtain ⟨p127, q127⟩ := tt_ p127 q127))
        repeat (go_quiet (first | ((with_reducible refine az (N := 4) rfl ?_); (try (refine a6 cI ?_; dsimp only)); refine bu ?hg (N := 4) ?hd (cs := #[.string (⟨#[]⟩ : ByteArray), .string (⟨#[]⟩ : ByteArray)]) (t := 86) ?hr ?_; (case hd => rfl); (case hg => rfl); (case hr => exact u6_); intro gb124 hg w16 hbox hb; have BK124 := am_ (hbox); have GW124 := gw_ HB hg; have GE124 := GW124; replace HB := bs_ HB hb; have NB121_124 := nl_ BK121 hg; have NB124_121 := ng_ BK121 hg; replace BK121 := bb_ BK121 hb; clear hb hbox hg; have hnb17 := NB124_121.out; have hnc17 := NB121_124.out; obtain ⟨hcz18_0, hcz18_1, hfz18_0, hfz18_1⟩ := bK BK124.out) | (go_at_call 108; (with_reducible refine (ap.calls k1 ((ah l0_1 x8_1).f0) true _ A7.out).mono ?_); rintro e w' ⟨rfl, ⟨nd, rfl⟩⟩; (try first | exact ⟨rfl, _, World.drewN_drewN _ _ _⟩ | exact ⟨rfl, _, Eq.trans (World.drewN_drewN _ _ _) (congrArg (World.drewN _) (Nat.add_assoc _ _ _))⟩)) | (go_at_call 147; (with_reducible refine (b4.calls k1 ((ah l0_1 x8_1).f1) true _ A9.out).mono ?_); rintro e w' ⟨rfl, ⟨nd, rfl⟩⟩; (try first | exact ⟨rfl, _, World.drewN_drewN _ _ _⟩ | exact ⟨rfl, _, Eq.trans (World.drewN_drewN _ _ _) (congrArg (World.drewN _) (Nat.add_assoc _ _ _))⟩); obtain ⟨hcz19_0, hcz19_1, hfz19_0, hfz19_1⟩ := bK BK121.out; obtain ⟨p127, q127⟩ := pq_ (ji12) l0_1.length; obtain ⟨ad127, e127, hx127_0, hx127_1⟩ := dp HR0_1.out (ji12) p127 q127; obtain rfl : ad123 = ad127 := (by injection e127); have hn127_0 : ad123.block ≠ gb124 := Nat.ne_of_lt (Nat.lt_of_lt_of_le j3 GW124.out); have hn127_1 : ad123.block ≠ gb124 := Nat.ne_of_lt (Nat.lt_of_lt_of_le j3 GW124.out); replace hx127_0 := cb_ HB hx127_0; replace hx127_1 := cb_ HB hx127_1; replace hx127_0 := (aH (p := ⟨gb124, 0, none⟩) u8_ (.string ((ah l0_1 x8_1).f0))).trans hx127_0; replace hx127_1 := (aH (p := ⟨gb124, 0, none⟩) u8_ (.string ((ah l0_1 x8_1).f0))).trans hx127_1; replace hx127_0 := (aH (p := ⟨gb124, 1, none⟩) u9_ (.string ((ah l0_1 x8_1).f1))).trans hx127_0; replace hx127_1 := (aH (p := ⟨gb124, 1, none⟩) u9_ (.string ((ah l0_1 x8_1).f1))).trans hx127_1; (try have hy127_0 := fun (n_ : Nat) => (show ((((w16.drewN n_).setCell ⟨gb124, 0, none⟩ (.string ((ah l0_1 x8_1).f0))).setCell ⟨gb124, 1, none⟩ (.string ((ah l0_1 x8_1).f1)))).cell? _ = some _ from hx127_0)); (try have hy127_1 := fun (n_ : Nat) => (show ((((w16.drewN n_).setCell ⟨gb124, 0, none⟩ (.string ((ah l0_1 x8_1).f0))).setCell ⟨gb124, 1, none⟩ (.string ((ah l0_1 x8_1).f1)))).cell? _ = some _ from hx127_1)); clear hn127_0 hn127_1; obtain ⟨p127, q127⟩ := tt_ p127 q127)); try go_wp2_with (first | ((with_reducible refine az (N := 4) rfl ?_); (try (refine a6 cI ?_; dsimp only)); refine bu ?hg (N := 4) ?hd (cs := #[.string (⟨#[]⟩ : ByteArray), .string (⟨#[]⟩ : ByteArray)]) (t := 86) ?hr ?_; (case hd => rfl); (case hg => rfl); (case hr => exact u6_); intro gb124 hg w16 hbox hb; have BK124 := am_ (hbox); have GW124 := gw_ HB hg; have GE124 := GW124; replace HB := bs_ HB hb; have NB121_124 := nl_ BK121 hg; have NB124_121 := ng_ BK121 hg; replace BK121 := bb_ BK121 hb; clear hb hbox hg; have hnb17 := NB124_121.out; have hnc17 := NB121_124.out; obtain ⟨hcz18_0, hcz18_1, hfz18_0, hfz18_1⟩ := bK BK124.out) | (go_at_call 108; (with_reducible refine (ap.calls k1 ((ah l0_1 x8_1).f0) true _ A7.out).mono ?_); rintro e w' ⟨rfl, ⟨nd, rfl⟩⟩; (try first | exact ⟨rfl, _, World.drewN_drewN _ _ _⟩ | exact ⟨rfl, _, Eq.trans (World.drewN_drewN _ _ _) (congrArg (World.drewN _) (Nat.add_assoc _ _ _))⟩)) | (go_at_call 147; (with_reducible refine (b4.calls k1 ((ah l0_1 x8_1).f1) true _ A9.out).mono ?_); rintro e w' ⟨rfl, ⟨nd, rfl⟩⟩; (try first | exact ⟨rfl, _, World.drewN_drewN _ _ _⟩ | exact ⟨rfl, _, Eq.trans (World.drewN_drewN _ _ _) (congrArg (World.drewN _) (Nat.add_assoc _ _ _))⟩); obtain ⟨hcz19_0, hcz19_1, hfz19_0, hfz19_1⟩ := bK BK121.out; obtain ⟨p127, q127⟩ := pq_ (ji12) l0_1.length; obtain ⟨ad127, e127, hx127_0, hx127_1⟩ := dp HR0_1.out (ji12) p127 q127; obtain rfl : ad123 = ad127 := (by injection e127); have hn127_0 : ad123.block ≠ gb124 := Nat.ne_of_lt (Nat.lt_of_lt_of_le j3 GW124.out); have hn127_1 : ad123.block ≠ gb124 := Nat.ne_of_lt (Nat.lt_of_lt_of_le j3 GW124.out); replace hx127_0 := cb_ HB hx127_0; replace hx127_1 := cb_ HB hx127_1; replace hx127_0 := (aH (p := ⟨gb124, 0, none⟩) u8_ (.string ((ah l0_1 x8_1).f0))).trans hx127_0; replace hx127_1 := (aH (p := ⟨gb124, 0, none⟩) u8_ (.string ((ah l0_1 x8_1).f0))).trans hx127_1; replace hx127_0 := (aH (p := ⟨gb124, 1, none⟩) u9_ (.string ((ah l0_1 x8_1).f1))).trans hx127_0; replace hx127_1 := (aH (p := ⟨gb124, 1, none⟩) u9_ (.string ((ah l0_1 x8_1).f1))).trans hx127_1; (try have hy127_0 := fun (n_ : Nat) => (show ((((w16.drewN n_).setCell ⟨gb124, 0, none⟩ (.string ((ah l0_1 x8_1).f0))).setCell ⟨gb124, 1, none⟩ (.string ((ah l0_1 x8_1).f1)))).cell? _ = some _ from hx127_0)); (try have hy127_1 := fun (n_ : Nat) => (show ((((w16.drewN n_).setCell ⟨gb124, 0, none⟩ (.string ((ah l0_1 x8_1).f0))).setCell ⟨gb124, 1, none⟩ (.string ((ah l0_1 x8_1).f1)))).cell? _ = some _ from hx127_1)); clear hn127_0 hn127_1; obtain ⟨p127, q127⟩ := tt_ p127 q127)))
        go_roundg k1
        case measure => have := HK1.out; omega
        case rel => exact ⟨(wrap64 (x8_1 + 1)), u1_, H', ⟨dc⟩, ⟨pb_ BK121⟩, ⟨bw_ HB⟩⟩
       ·rw [if_neg c15] at H; have c15b0 : (Op.bytesLess (((ah l0_1 (ji12)).f0).toList) (((ah l0_1 x8_1).f0).toList)) = false := by simpa using c15
        clear c15; obtain rfl := si_ H; (first | rw [c15b0] | (simp only [ao, au]; rw [c15b0]) | skip)
        go_wp2_with (first | ((with_reducible refine az (N := 4) rfl ?_); (try (refine a6 cI ?_; dsimp only)); refine bu ?hg (N := 4) ?hd (cs := #[.string (⟨#[]⟩ : ByteArray), .string (⟨#[]⟩ : ByteArray)]) (t := 86) ?hr ?_; (case hd => rfl); (case hg => rfl); (case hr => exact u6_); intro gb124 hg w20 hbox hb; have BK124 := am_ (hbox); have GW124 := gw_ HB hg; have GE124 := GW124; replace HB := bs_ HB hb; have NB121_124 := nl_ BK121 hg; have NB124_121 := ng_ BK121 hg; replace BK121 := bb_ BK121 hb; clear hb hbox hg; have hnb21 := NB124_121.out; have hnc21 := NB121_124.out; obtain ⟨hcz22_0, hcz22_1, hfz22_0, hfz22_1⟩ := bK BK124.out) | (go_at_call 108; (with_reducible refine (ap.calls k1 ((ah l0_1 x8_1).f0) true _ A7.out).mono ?_); rintro e w' ⟨rfl, ⟨nd, rfl⟩⟩; (try first | exact ⟨rfl, _, World.drewN_drewN _ _ _⟩ | exact ⟨rfl, _, Eq.trans (World.drewN_drewN _ _ _) (congrArg (World.drewN _) (Nat.add_assoc _ _ _))⟩)) | (go_at_call 147; (with_reducible refine (b4.calls k1 ((ah l0_1 x8_1).f1) true _ A9.out).mono ?_); rintro e w' ⟨rfl, ⟨nd, rfl⟩⟩; (try first | exact ⟨rfl, _, World.drewN_drewN _ _ _⟩ | exact ⟨rfl, _, Eq.trans (World.drewN_drewN _ _ _) (congrArg (World.drewN _) (Nat.add_assoc _ _ _))⟩); obtain ⟨hcz23_0, hcz23_1, hfz23_0, hfz23_1⟩ := bK BK121.out; obtain ⟨p127, q127⟩ := pq_ (ji12) l0_1.length; obtain ⟨ad127, e127, hx127_0, hx127_1⟩ := dp HR0_1.out (ji12) p127 q127; obtain rfl : ad123 = ad127 := (by injection e127); have hn127_0 : ad123.block ≠ gb124 := Nat.ne_of_lt (Nat.lt_of_lt_of_le j3 GW124.out); have hn127_1 : ad123.block ≠ gb124 := Nat.ne_of_lt (Nat.lt_of_lt_of_le j3 GW124.out); replace hx127_0 := cb_ HB hx127_0; replace hx127_1 := cb_ HB hx127_1; replace hx127_0 := (aH (p := ⟨gb124, 0, none⟩) u8_ (.string ((ah l0_1 x8_1).f0))).trans hx127_0; replace hx127_1 := (aH (p := ⟨gb124, 0, none⟩) u8_ (.string ((ah l0_1 x8_1).f0))).trans hx127_1; replace hx127_0 := (aH (p := ⟨gb124, 1, none⟩) u9_ (.string ((ah l0_1 x8_1).f1))).trans hx127_0; replace hx127_1 := (aH (p := ⟨gb124, 1, none⟩) u9_ (.string ((ah l0_1 x8_1).f1))).trans hx127_1; (try have hy127_0 := fun (n_ : Nat) => (show ((((w20.drewN n_).setCell ⟨gb124, 0, none⟩ (.string ((ah l0_1 x8_1).f0))).setCell ⟨gb124, 1, none⟩ (.string ((ah l0_1 x8_1).f1)))).cell? _ = some _ from hx127_0)); (try have hy127_1 := fun (n_ : Nat) => (show ((((w20.drewN n_).setCell ⟨gb124, 0, none⟩ (.string ((ah l0_1 x8_1).f0))).setCell ⟨gb124, 1, none⟩ (.string ((ah l0_1 x8_1).f1)))).cell? _ = some _ from hx127_1)); clear hn127_0 hn127_1; obtain ⟨p127, q127⟩ := tt_ p127 q127))
        repeat (go_quiet (first | ((with_reducible refine az (N := 4) rfl ?_); (try (refine a6 cI ?_; dsimp only)); refine bu ?hg (N := 4) ?hd (cs := #[.string (⟨#[]⟩ : ByteArray), .string (⟨#[]⟩ : ByteArray)]) (t := 86) ?hr ?_; (case hd => rfl); (case hg => rfl); (case hr => exact u6_); intro gb124 hg w20 hbox hb; have BK124 := am_ (hbox); have GW124 := gw_ HB hg; have GE124 := GW124; replace HB := bs_ HB hb; have NB121_124 := nl_ BK121 hg; have NB124_121 := ng_ BK121 hg; replace BK121 := bb_ BK121 hb; clear hb hbox hg; have hnb21 := NB124_121.out; have hnc21 := NB121_124.out; obtain ⟨hcz22_0, hcz22_1, hfz22_0, hfz22_1⟩ := bK BK124.out) | (go_at_call 108; (with_reducible refine (ap.calls k1 ((ah l0_1 x8_1).f0) true _ A7.out).mono ?_); rintro e w' ⟨rfl, ⟨nd, rfl⟩⟩; (try first | exact ⟨rfl, _, World.drewN_drewN _ _ _⟩ | exact ⟨rfl, _, Eq.trans (World.drewN_drewN _ _ _) (congrArg (World.drewN _) (Nat.add_assoc _ _ _))⟩)) | (go_at_call 147; (with_reducible refine (b4.calls k1 ((ah l0_1 x8_1).f1) true _ A9.out).mono ?_); rintro e w' ⟨rfl, ⟨nd, rfl⟩⟩; (try first | exact ⟨rfl, _, World.drewN_drewN _ _ _⟩ | exact ⟨rfl, _, Eq.trans (World.drewN_drewN _ _ _) (congrArg (World.drewN _) (Nat.add_assoc _ _ _))⟩); obtain ⟨hcz23_0, hcz23_1, hfz23_0, hfz23_1⟩ := bK BK121.out; obtain ⟨p127, q127⟩ := pq_ (ji12) l0_1.length; obtain ⟨ad127, e127, hx127_0, hx127_1⟩ := dp HR0_1.out (ji12) p127 q127; obtain rfl : ad123 = ad127 := (by injection e127); have hn127_0 : ad123.block ≠ gb124 := Nat.ne_of_lt (Nat.lt_of_lt_of_le j3 GW124.out); have hn127_1 : ad123.block ≠ gb124 := Nat.ne_of_lt (Nat.lt_of_lt_of_le j3 GW124.out); replace hx127_0 := cb_ HB hx127_0; replace hx127_1 := cb_ HB hx127_1; replace hx127_0 := (aH (p := ⟨gb124, 0, none⟩) u8_ (.string ((ah l0_1 x8_1).f0))).trans hx127_0; replace hx127_1 := (aH (p := ⟨gb124, 0, none⟩) u8_ (.string ((ah l0_1 x8_1).f0))).trans hx127_1; replace hx127_0 := (aH (p := ⟨gb124, 1, none⟩) u9_ (.string ((ah l0_1 x8_1).f1))).trans hx127_0; replace hx127_1 := (aH (p := ⟨gb124, 1, none⟩) u9_ (.string ((ah l0_1 x8_1).f1))).trans hx127_1; (try have hy127_0 := fun (n_ : Nat) => (show ((((w20.drewN n_).setCell ⟨gb124, 0, none⟩ (.string ((ah l0_1 x8_1).f0))).setCell ⟨gb124, 1, none⟩ (.string ((ah l0_1 x8_1).f1)))).cell? _ = some _ from hx127_0)); (try have hy127_1 := fun (n_ : Nat) => (show ((((w20.drewN n_).setCell ⟨gb124, 0, none⟩ (.string ((ah l0_1 x8_1).f0))).setCell ⟨gb124, 1, none⟩ (.string ((ah l0_1 x8_1).f1)))).cell? _ = some _ from hx127_1)); clear hn127_0 hn127_1; obtain ⟨p127, q127⟩ := tt_ p127 q127)); try go_wp2_with (first | ((with_reducible refine az (N := 4) rfl ?_); (try (refine a6 cI ?_; dsimp only)); refine bu ?hg (N := 4) ?hd (cs := #[.string (⟨#[]⟩ : ByteArray), .string (⟨#[]⟩ : ByteArray)]) (t := 86) ?hr ?_; (case hd => rfl); (case hg => rfl); (case hr => exact u6_); intro gb124 hg w20 hbox hb; have BK124 := am_ (hbox); have GW124 := gw_ HB hg; have GE124 := GW124; replace HB := bs_ HB hb; have NB121_124 := nl_ BK121 hg; have NB124_121 := ng_ BK121 hg; replace BK121 := bb_ BK121 hb; clear hb hbox hg; have hnb21 := NB124_121.out; have hnc21 := NB121_124.out; obtain ⟨hcz22_0, hcz22_1, hfz22_0, hfz22_1⟩ := bK BK124.out) | (go_at_call 108; (with_reducible refine (ap.calls k1 ((ah l0_1 x8_1).f0) true _ A7.out).mono ?_); rintro e w' ⟨rfl, ⟨nd, rfl⟩⟩; (try first | exact ⟨rfl, _, World.drewN_drewN _ _ _⟩ | exact ⟨rfl, _, Eq.trans (World.drewN_drewN _ _ _) (congrArg (World.drewN _) (Nat.add_assoc _ _ _))⟩)) | (go_at_call 147; (with_reducible refine (b4.calls k1 ((ah l0_1 x8_1).f1) true _ A9.out).mono ?_); rintro e w' ⟨rfl, ⟨nd, rfl⟩⟩; (try first | exact ⟨rfl, _, World.drewN_drewN _ _ _⟩ | exact ⟨rfl, _, Eq.trans (World.drewN_drewN _ _ _) (congrArg (World.drewN _) (Nat.add_assoc _ _ _))⟩); obtain ⟨hcz23_0, hcz23_1, hfz23_0, hfz23_1⟩ := bK BK121.out; obtain ⟨p127, q127⟩ := pq_ (ji12) l0_1.length; obtain ⟨ad127, e127, hx127_0, hx127_1⟩ := dp HR0_1.out (ji12) p127 q127; obtain rfl : ad123 = ad127 := (by injection e127); have hn127_0 : ad123.block ≠ gb124 := Nat.ne_of_lt (Nat.lt_of_lt_of_le j3 GW124.out); have hn127_1 : ad123.block ≠ gb124 := Nat.ne_of_lt (Nat.lt_of_lt_of_le j3 GW124.out); replace hx127_0 := cb_ HB hx127_0; replace hx127_1 := cb_ HB hx127_1; replace hx127_0 := (aH (p := ⟨gb124, 0, none⟩) u8_ (.string ((ah l0_1 x8_1).f0))).trans hx127_0; replace hx127_1 := (aH (p := ⟨gb124, 0, none⟩) u8_ (.string ((ah l0_1 x8_1).f0))).trans hx127_1; replace hx127_0 := (aH (p := ⟨gb124, 1, none⟩) u9_ (.string ((ah l0_1 x8_1).f1))).trans hx127_0; replace hx127_1 := (aH (p := ⟨gb124, 1, none⟩) u9_ (.string ((ah l0_1 x8_1).f1))).trans hx127_1; (try have hy127_0 := fun (n_ : Nat) => (show ((((w20.drewN n_).setCell ⟨gb124, 0, none⟩ (.string ((ah l0_1 x8_1).f0))).setCell ⟨gb124, 1, none⟩ (.string ((ah l0_1 x8_1).f1)))).cell? _ = some _ from hx127_0)); (try have hy127_1 := fun (n_ : Nat) => (show ((((w20.drewN n_).setCell ⟨gb124, 0, none⟩ (.string ((ah l0_1 x8_1).f0))).setCell ⟨gb124, 1, none⟩ (.string ((ah l0_1 x8_1).f1)))).cell? _ = some _ from hx127_1)); clear hn127_0 hn127_1; obtain ⟨p127, q127⟩ := tt_ p127 q127)))
        go_ret
        exact ⟨u40_, bw_ HB⟩
      ·rw [if_neg c11] at H; have c11b0 : decide (0 < x8_1) = false := decide_eq_false c11; clear c11; have H' := am_ H; clear H; (first | rw [c11b0] | (simp only [ao, au]; rw [c11b0]) | skip)
       go_wp2_with (first | ((with_reducible refine az (N := 4) rfl ?_); (try (refine a6 cI ?_; dsimp only)); refine bu ?hg (N := 4) ?hd (cs := #[.string (⟨#[]⟩ : ByteArray), .string (⟨#[]⟩ : ByteArray)]) (t := 86) ?hr ?_; (case hd => rfl); (case hg => rfl); (case hr => exact u6_); intro gb124 hg w24 hbox hb; have BK124 := am_ (hbox); have GW124 := gw_ HB hg; have GE124 := GW124; replace HB := bs_ HB hb; have NB121_124 := nl_ BK121 hg; have NB124_121 := ng_ BK121 hg; replace BK121 := bb_ BK121 hb; clear hb hbox hg; have hnb25 := NB124_121.out; have hnc25 := NB121_124.out; obtain ⟨hcz26_0, hcz26_1, hfz26_0, hfz26_1⟩ := bK BK124.out) | (go_at_call 108; (with_reducible refine (ap.calls k1 ((ah l0_1 x8_1).f0) true _ A7.out).mono ?_); rintro e w' ⟨rfl, ⟨nd, rfl⟩⟩; (try first | exact ⟨rfl, _, World.drewN_drewN _ _ _⟩ | exact ⟨rfl, _, Eq.trans (World.drewN_drewN _ _ _) (congrArg (World.drewN _) (Nat.add_assoc _ _ _))⟩)) | (go_at_call 147; (with_reducible refine (b4.calls k1 ((ah l0_1 x8_1).f1) true _ A9.out).mono ?_); rintro e w' ⟨rfl, ⟨nd, rfl⟩⟩; (try first | exact ⟨rfl, _, World.drewN_drewN _ _ _⟩ | exact ⟨rfl, _, Eq.trans (World.drewN_drewN _ _ _) (congrArg (World.drewN _) (Nat.add_assoc _ _ _))⟩)))
       repeat (go_quiet (first | ((with_reducible refine az (N := 4) rfl ?_); (try (refine a6 cI ?_; dsimp only)); refine bu ?hg (N := 4) ?hd (cs := #[.string (⟨#[]⟩ : ByteArray), .string (⟨#[]⟩ : ByteArray)]) (t := 86) ?hr ?_; (case hd => rfl); (case hg => rfl); (case hr => exact u6_); intro gb124 hg w24 hbox hb; have BK124 := am_ (hbox); have GW124 := gw_ HB hg; have GE124 := GW124; replace HB := bs_ HB hb; have NB121_124 := nl_ BK121 hg; have NB124_121 := ng_ BK121 hg; replace BK121 := bb_ BK121 hb; clear hb hbox hg; have hnb25 := NB124_121.out; have hnc25 := NB121_124.out; obtain ⟨hcz26_0, hcz26_1, hfz26_0, hfz26_1⟩ := bK BK124.out) | (go_at_call 108; (with_reducible refine (ap.calls k1 ((ah l0_1 x8_1).f0) true _ A7.out).mono ?_); rintro e w' ⟨rfl, ⟨nd, rfl⟩⟩; (try first | exact ⟨rfl, _, World.drewN_drewN _ _ _⟩ | exact ⟨rfl, _, Eq.trans (World.drewN_drewN _ _ _) (congrArg (World.drewN _) (Nat.add_assoc _ _ _))⟩)) | (go_at_call 147; (with_reducible refine (b4.calls k1 ((ah l0_1 x8_1).f1) true _ A9.out).mono ?_); rintro e w' ⟨rfl, ⟨nd, rfl⟩⟩; (try first | exact ⟨rfl, _, World.drewN_drewN _ _ _⟩ | exact ⟨rfl, _, Eq.trans (World.drewN_drewN _ _ _) (congrArg (World.drewN _) (Nat.add_assoc _ _ _))⟩))); try go_wp2_with (first | ((with_reducible refine az (N := 4) rfl ?_); (try (refine a6 cI ?_; dsimp only)); refine bu ?hg (N := 4) ?hd (cs := #[.string (⟨#[]⟩ : ByteArray), .string (⟨#[]⟩ : ByteArray)]) (t := 86) ?hr ?_; (case hd => rfl); (case hg => rfl); (case hr => exact u6_); intro gb124 hg w24 hbox hb; have BK124 := am_ (hbox); have GW124 := gw_ HB hg; have GE124 := GW124; replace HB := bs_ HB hb; have NB121_124 := nl_ BK121 hg; have NB124_121 := ng_ BK121 hg; replace BK121 := bb_ BK121 hb; clear hb hbox hg; have hnb25 := NB124_121.out; have hnc25 := NB121_124.out; obtain ⟨hcz26_0, hcz26_1, hfz26_0, hfz26_1⟩ := bK BK124.out) | (go_at_call 108; (with_reducible refine (ap.calls k1 ((ah l0_1 x8_1).f0) true _ A7.out).mono ?_); rintro e w' ⟨rfl, ⟨nd, rfl⟩⟩; (try first | exact ⟨rfl, _, World.drewN_drewN _ _ _⟩ | exact ⟨rfl, _, Eq.trans (World.drewN_drewN _ _ _) (congrArg (World.drewN _) (Nat.add_assoc _ _ _))⟩)) | (go_at_call 147; (with_reducible refine (b4.calls k1 ((ah l0_1 x8_1).f1) true _ A9.out).mono ?_); rintro e w' ⟨rfl, ⟨nd, rfl⟩⟩; (try first | exact ⟨rfl, _, World.drewN_drewN _ _ _⟩ | exact ⟨rfl, _, Eq.trans (World.drewN_drewN _ _ _) (congrArg (World.drewN _) (Nat.add_assoc _ _ _))⟩))))
       go_roundg k1
       case measure => have := HK1.out; omega
       case rel => exact ⟨(wrap64 (x8_1 + 1)), u1_, H', ⟨dc⟩, ⟨pb_ BK121⟩, ⟨bw_ HB⟩⟩
   ·rw [if_neg c4] at H; have c4b0 := decide_eq_false c4; clear c4; obtain ⟨t122, A33, H⟩ := bi_ H; cases t122
    ·replace H := hf_ H; obtain rfl := si_ H; obtain ⟨hcz36_0, hcz36_1, hfz36_0, hfz36_1⟩ := bK BK121.out; go_wp2_with (first | (go_at_call 108; (with_reducible refine (ap.calls k1 a0_0 false _ A33.out).mono ?_); rintro e w' ⟨rfl, ⟨nd, rfl⟩⟩; (try first | exact ⟨rfl, _, World.drewN_drewN _ _ _⟩ | exact ⟨rfl, _, Eq.trans (World.drewN_drewN _ _ _) (congrArg (World.drewN _) (Nat.add_assoc _ _ _))⟩)))
     repeat (go_quiet (first | (go_at_call 108; (with_reducible refine (ap.calls k1 a0_0 false _ A33.out).mono ?_); rintro e w' ⟨rfl, ⟨nd, rfl⟩⟩; (try first | exact ⟨rfl, _, World.drewN_drewN _ _ _⟩ | exact ⟨rfl, _, Eq.trans (World.drewN_drewN _ _ _) (congrArg (World.drewN _) (Nat.add_assoc _ _ _))⟩))); try go_wp2_with (first | (go_at_call 108; (with_reducible refine (ap.calls k1 a0_0 false _ A33.out).mono ?_); rintro e w' ⟨rfl, ⟨nd, rfl⟩⟩; (try first | exact ⟨rfl, _, World.drewN_drewN _ _ _⟩ | exact ⟨rfl, _, Eq.trans (World.drewN_drewN _ _ _) (congrArg (World.drewN _) (Nat.add_assoc _ _ _))⟩))))
     go_ret
     exact ⟨u0_, bw_ HB⟩
    ·replace H := ht_ H; obtain rfl := si_ H; obtain ⟨hcz35_0, hcz35_1, hfz35_0, hfz35_1⟩ := bK BK121.out; go_wp2_with (first | (go_at_call 108; (with_reducible refine (ap.calls k1 a0_0 true _ A33.out).mono ?_); rintro e w' ⟨rfl, ⟨nd, rfl⟩⟩; (try first | exact ⟨rfl, _, World.drewN_drewN _ _ _⟩ | exact ⟨rfl, _, Eq.trans (World.drewN_drewN _ _ _) (congrArg (World.drewN _) (Nat.add_assoc _ _ _))⟩)))
     repeat (go_quiet (first | (go_at_call 108; (with_reducible refine (ap.calls k1 a0_0 true _ A33.out).mono ?_); rintro e w' ⟨rfl, ⟨nd, rfl⟩⟩; (try first | exact ⟨rfl, _, World.drewN_drewN _ _ _⟩ | exact ⟨rfl, _, Eq.trans (World.drewN_drewN _ _ _) (congrArg (World.drewN _) (Nat.add_assoc _ _ _))⟩))); try go_wp2_with (first | (go_at_call 108; (with_reducible refine (ap.calls k1 a0_0 true _ A33.out).mono ?_); rintro e w' ⟨rfl, ⟨nd, rfl⟩⟩; (try first | exact ⟨rfl, _, World.drewN_drewN _ _ _⟩ | exact ⟨rfl, _, Eq.trans (World.drewN_drewN _ _ _) (congrArg (World.drewN _) (Nat.add_assoc _ _ _))⟩))))
     go_ret
     exact ⟨u0_, bw_ HB⟩
def bf.l0 : Nat → ByteArray → List (S92) → Int → Int → Option (ByteArray × Int × Int)
 | 0, _, _, _, _ => none
 | k + 1, x1, x7, x8, x9 => if x9 < x8 then (if 0 ≤ x9 then (if x9 < (x7.length : Int) then (if ((an x7 x9).f0).toList = x1.toList then (some ((an x7 x9).f0, (an x7 x9).f1, (an x7 x9).f2)) else (bf.l0 k x1 x7 x8 (wrap64 (x9 + 1)))) else (none)) else (none)) else (some ((⟨#[]⟩ : ByteArray), 0, 0))
def bf.f (k : Nat) (l0 : List (S92)) (a1 : ByteArray) : Option (ByteArray × Int × Int) := bf.l0 k a1 l0 (l0.length : Int) 0
theorem bf.calls (k : Nat) (A0 : Option Addr) (c0 : Nat) (l0 : List (S92)) (a1 : ByteArray) (r1 : ByteArray) (r2 : Int) (r3 : Int) (w : World) (hr0 : Kd.C k92 w A0 l0.length l0) (hc0 : l0.length ≤ c0) (h : bf.f k l0 a1 = some (r1, r2, r3)) :
  Calls Tryz.prog 110 #[.slice A0 l0.length c0, .string a1] w fun e w' => e = .returned (.agg #[.string r1, .int .i64 r2, .int .i64 r3]) ∧ Below w.heap.size w w' := by
 have hu92 := Tryz.underlying92; have HR0 := am_ hr0; have HC0 := am_ hc0; clear hr0 hc0; have HB := am_ (Below.refl w.heap.size w); have H := h; clear h; unfold bf.f at H
 have H' := am_ H; clear H; go_enter Tryz.func110, Tryz.ntmps110
 go_wp2_with (first | ((with_reducible refine gt_ 4 ?_); refine bx_ 4 #[.string (⟨#[]⟩ : ByteArray), .int .i64 0, .int .i64 0] 92 ?_; intro gb128 hg w3 hbox hb; have BK128 := am_ (hbox); have GE128 := gw_ HB hg; replace HB := bs_ HB hb; clear hb hbox hg))
 go_loopg [9] k (fun kq v9 w' => ∃ (x9_1 : Int) (x129000_1 : ByteArray) (x129001_1 : Int) (x129002_1 : Int), v9 = .int .i64 x9_1 ∧ aa (bf.l0 kq a1 l0 (l0.length : Int) x9_1 = some (r1, r2, r3)) ∧ aa (kq ≤ k) ∧ aa (w'.heap[gb128]? = some (.cells #[.string x129000_1, .int .i64 x129001_1, .int .i64 x129002_1] 92 (0, 0))) ∧ aa (Below w.heap.size w w'))
 case atStart => exact ⟨(0), ((⟨#[]⟩ : ByteArray)), (0), (0), u1_, H', ⟨Nat.le_refl _⟩, ⟨pb_ BK128⟩, ⟨bw_ HB⟩⟩
 case round =>
  clear H'; obtain ⟨x9_1, x129000_1, x129001_1, x129002_1, rfl, HA, HK1, BK128, HB⟩ := hrel; cases gk with
  | zero => exact absurd HA.out (by simp [bf.l0])
  | succ k1 =>
   have H := HA.out; clear HA; simp only [bf.l0] at H; by_cases c4 : x9_1 < (l0.length : Int)
   ·rw [if_pos c4] at H; have c4b0 := decide_eq_true c4; clear c4; obtain ⟨c5b0, H⟩ := gd_ H; obtain ⟨c6b0, H⟩ := gd_ H; have HC_ := am_ H; clear H; obtain ⟨ad129, e129, hx129_0, hx129_1, hx129_2⟩ := gH HR0.out x9_1 od_ od_; cases e129; replace hx129_0 := cb_ HB hx129_0; replace hx129_1 := cb_ HB hx129_1; replace hx129_2 := cb_ HB hx129_2; obtain ⟨p129, q129⟩ := pt_ x9_1 l0.length; have H := HC_.out; clear HC_; by_cases c7 : ((an l0 x9_1).f0).toList = a1.toList
    ·rw [if_pos c7] at H; have c7b0 := cQ c7; have c7b1 := cO c7; clear c7; simp only [Option.some.injEq, Prod.mk.injEq] at H; obtain ⟨rfl, rfl, rfl⟩ := H; (first | rw [c7b0] | (simp only [ao, au]; rw [c7b0]) | skip)
     go_wp2_with (first | ((with_reducible refine gt_ 6 ?_); refine bx_ 6 #[.string (⟨#[]⟩ : ByteArray), .int .i64 0, .int .i64 0] 92 ?_; intro gb130 hg w8 hbox hb; have BK130 := am_ (hbox); have GE130 := gw_ HB hg; replace HB := bs_ HB hb; have NB128_130 := nl_ BK128 hg; have NB130_128 := ng_ BK128 hg; replace BK128 := bb_ BK128 hb; clear hb hbox hg; have hnb9 := NB130_128.out; have hnc9 := NB128_130.out; obtain ⟨hcz10_0, hcz10_1, hcz10_2, hfz10_0, hfz10_1, hfz10_2⟩ := bO BK130.out; obtain ⟨hcz11_0, hcz11_1, hcz11_2, hfz11_0, hfz11_1, hfz11_2⟩ := bO BK128.out))
     refine bodyPost_ret (results_cell_row rfl _ _ gb128 92 #[.string ((an l0 x9_1).f0), .int .i64 ((an l0 x9_1).f1), .int .i64 ((an l0 x9_1).f2)] (0, 0) _ rfl (pb_ BK128) Tryz.underlying92 rfl b9) rfl ?_; exact ⟨u0_, bw_ HB⟩
    ·rw [if_neg c7] at H; have c7b0 := cT c7; have c7b1 := cV c7; have H' := am_ H; clear H; (first | rw [c7b0] | (simp only [ao, au]; rw [c7b0]) | skip)
     go_wp2_with (first | ((with_reducible refine gt_ 6 ?_); refine bx_ 6 #[.string (⟨#[]⟩ : ByteArray), .int .i64 0, .int .i64 0] 92 ?_; intro gb130 hg w12 hbox hb; have BK130 := am_ (hbox); have GE130 := gw_ HB hg; replace HB := bs_ HB hb; have NB128_130 := nl_ BK128 hg; have NB130_128 := ng_ BK128 hg; replace BK128 := bb_ BK128 hb; clear hb hbox hg; have hnb13 := NB130_128.out; have hnc13 := NB128_130.out; obtain ⟨hcz14_0, hcz14_1, hcz14_2, hfz14_0, hfz14_1, hfz14_2⟩ := bO BK130.out))
     go_roundg k1
     case measure => have := HK1.out; omega
     case rel => exact ⟨(wrap64 (x9_1 + 1)), (x129000_1), (x129001_1), (x129002_1), u1_, H', ⟨dc⟩, ⟨pb_ BK128⟩, ⟨bw_ HB⟩⟩
   ·rw [if_neg c4] at H; have c4b0 := decide_eq_false c4; clear c4; simp only [Option.some.injEq, Prod.mk.injEq] at H; obtain ⟨rfl, rfl, rfl⟩ := H; obtain ⟨hcz15_0, hcz15_1, hcz15_2, hfz15_0, hfz15_1, hfz15_2⟩ := bO BK128.out; go_wp2; refine bodyPost_ret (results_cell_row rfl _ _ gb128 92 #[.string (⟨#[]⟩ : ByteArray), .int .i64 0, .int .i64 0] (0, 0) _ rfl (pb_ BK128) Tryz.underlying92 rfl b9) rfl ?_; exact ⟨u0_, bw_ HB⟩
def strconv_Itoa.f (a0 : Int) : Option ByteArray := if -9223372036854775808 ≤ a0 ∧ a0 ≤ 9223372036854775807 then some ⟨(Lib.itoa a0).toArray⟩ else none
theorem strconv_Itoa.below (w : World) (k : Nat) (os : Array Obj) : Below w.heap.size w (Go.Sort.grow (w.drewN k) os) :=
 ⟨rfl, rfl, rfl, by rw [Go.Sort.size_grow]; exact Nat.le_add_right _ _, fun i hi => Go.Sort.heap_grow_old (w.drewN k) os hi⟩
theorem strconv_Itoa.calls (a0 : Int) (r : ByteArray) (w : World) (hG : StopsIn w) (h : strconv_Itoa.f a0 = some r) :
  Calls Tryz.prog 149 #[.int .i64 a0] w fun e w' => e = .returned (.string r) ∧ Below w.heap.size w w' := by
 unfold strconv_Itoa.f at h
 by_cases hs : -9223372036854775808 ≤ a0 ∧ a0 ≤ 9223372036854775807
 case neg => rw [if_neg hs] at h; exact absurd h cN
 rw [if_pos hs] at h; have h := Option.some.inj h; subst h; refine (Go.Proofs.Tryz.strconv_Itoa a0 hs.1 hs.2 w hG.tab).mono ?_; rintro e w' ⟨rfl, k, os, rfl⟩; exact ⟨rfl, strconv_Itoa.below w k os⟩
def b5.v (s : ByteArray) : Int × Bool := match Lib.atoiAll s.data.toList with
 | .ok n => if -999999999 ≤ n ∧ n ≤ 999999999 ∧ Lib.itoa n = s.data.toList then (n, true) else (0, false)
 | _ => (0, false)
def b5.f (a0 : ByteArray) : Option (Int × Bool) := if a0.size ≤ 140737488355328 then some (b5.v a0) else none
theorem b5.atoi_ok (s : ByteArray) (hs : s.size ≤ 140737488355328) (n : Int) (h : Lib.atoiAll s.data.toList = .ok n) (w : World) :
  Calls Tryz.prog 148 #[.string s] w fun e w' => e = .returned (.tuple #[.int .i64 n, .nilIface]) ∧ Below w.heap.size w w' := by
 refine (Go.Proofs.Tryz.strconv_Atoi_ok s u7_ n h w).mono ?_; rintro e w' ⟨rfl, h1⟩; rcases h1 with rfl | ⟨t, rfl⟩
 ·exact ⟨rfl, Below.refl _ _⟩
 ·exact ⟨rfl, jF (Below.refl _ _) (Nat.le_refl _) _ _⟩
theorem b5.atoi_no (s : ByteArray) (hs : s.size ≤ 140737488355328) (h : ∀ n, Lib.atoiAll s.data.toList ≠ .ok n) (w : World) (hG : StopsIn w) :
  Calls Tryz.prog 148 #[.string s] w fun e w' => ∃ n t p, e = .returned (.tuple #[.int .i64 n, .iface t p]) ∧ Below w.heap.size w w' := by
 obtain ⟨⟨u1, v1, h1⟩, ⟨u2, v2, h2⟩⟩ := hG.errs; rcases hA : Lib.atoiAll s.data.toList with n | _ | _
 ·exact absurd hA (h n)
 ·refine (Go.Proofs.Tryz.strconv_Atoi_syntax_var s u7_ hA u1 v1 w h1).mono ?_; rintro e w' ⟨N, rfl, _, _, hb⟩; exact ⟨_, _, _, rfl, hb⟩
 ·refine (Go.Proofs.Tryz.strconv_Atoi_range_var s u7_ hA u2 v2 w h2).mono ?_; rintro e w' ⟨N, rfl, _, _, hb⟩; exact ⟨_, _, _, rfl, hb⟩
theorem b5.calls (a0 : ByteArray) (r1 : Int) (r2 : Bool) (w : World) (hG : StopsIn w) (h : b5.f a0 = some (r1, r2)) :
  Calls Tryz.prog 111 #[.string a0] w fun e w' => e = .returned (.tuple #[.int .i64 r1, .bool r2]) ∧ Below w.heap.size w w' := by
 unfold b5.f at h
 by_cases hs : a0.size ≤ 140737488355328
 case neg => rw [if_neg hs] at h; exact absurd h cN
 rw [if_pos hs] at h; have h := Option.some.inj h; have hG := am_ hG; rcases hA : Lib.atoiAll a0.data.toList with n | _ | _
 ·have hbd := Lib.atoiAll_bounds hA; have hok := b5.atoi_ok a0 hs n hA; have hit : aa (strconv_Itoa.f n = some ⟨(Lib.itoa n).toArray⟩) := ⟨if_pos hbd⟩; unfold b5.v at h
  rw [hA] at h; clear hA; by_cases hw : -999999999 ≤ n ∧ n ≤ 999999999
  ·have hwi : aa (aM.f n (-999999999) 999999999 = some true) := ⟨by unfold aM.f; rw [if_pos (show n ≥ -999999999 from hw.1), decide_eq_true hw.2]⟩; by_cases he : Lib.itoa n = a0.data.toList
   ·have heq : (⟨(Lib.itoa n).toArray⟩ : ByteArray) = a0 := by rw [he]
    have h2 : (n, true) = (r1, r2) := by rw [← h]; simp only [if_pos (show -999999999 ≤ n ∧ n ≤ 999999999 ∧ Lib.itoa n = a0.data.toList from ⟨hw.1, hw.2, he⟩)]
    obtain ⟨rfl, rfl⟩ := Prod.mk.inj h2; rw [heq] at hit; clear h h2 he heq hw hbd; go_enter Tryz.func111, Tryz.ntmps111
    go_wp2_with (first | (go_at_call 148; refine (hok _).mono ?_; rintro e w1 ⟨rfl, hb1⟩) | (go_at_call 64; refine (aM.calls _ _ _ _ _ hwi.out).mono ?_; rintro e w2 ⟨rfl, ⟨⟨q, rfl⟩⟩⟩) | (go_at_call 149; refine (strconv_Itoa.calls _ _ _ (StopsIn.below hG.out (aq hb1 q)) hit.out).mono ?_; rintro e w3 ⟨rfl, hb3⟩))
    go_ret2
    exact ⟨rfl, eO (aq hb1 q) hb1.size hb3⟩
   ·have heq : ¬ (⟨(Lib.itoa n).toArray⟩ : ByteArray).toList = a0.toList := fun e => he (by rw [ByteArray.toList_eq, ByteArray.toList_eq] at e; simpa using e)
    have h2 : (0, false) = (r1, r2) := by rw [← h]; simp only [if_neg (show ¬ (-999999999 ≤ n ∧ n ≤ 999999999 ∧ Lib.itoa n = a0.data.toList) from fun hh => he hh.2.2)]
    obtain ⟨rfl, rfl⟩ := Prod.mk.inj h2; obtain ⟨y, hy⟩ : ∃ y : ByteArray, (⟨(Lib.itoa n).toArray⟩ : ByteArray) = y := ⟨_, rfl⟩; rw [hy] at hit heq; have hb0 : (y.toList != a0.toList) = true := by simpa using heq
    have hb1_ : (y.toList == a0.toList) = false := by simpa using heq
    clear h h2 he hw hbd hy; go_enter Tryz.func111, Tryz.ntmps111
    go_wp2_with (first | (go_at_call 148; refine (hok _).mono ?_; rintro e w1 ⟨rfl, hb1⟩) | (go_at_call 64; refine (aM.calls _ _ _ _ _ hwi.out).mono ?_; rintro e w2 ⟨rfl, ⟨⟨q, rfl⟩⟩⟩) | (go_at_call 149; refine (strconv_Itoa.calls _ _ _ (StopsIn.below hG.out (aq hb1 q)) hit.out).mono ?_; rintro e w3 ⟨rfl, hb3⟩))
    go_ret2
    exact ⟨rfl, eO (aq hb1 q) hb1.size hb3⟩
  ·have hwi : aa (aM.f n (-999999999) 999999999 = some false) := ⟨by
    unfold aM.f
    by_cases h1 : n ≥ -999999999
    ·rw [if_pos h1, decide_eq_false u7_]
    ·rw [if_neg h1]⟩
   have h2 : (0, false) = (r1, r2) := by rw [← h]; simp only [if_neg (show ¬ (-999999999 ≤ n ∧ n ≤ 999999999 ∧ Lib.itoa n = a0.data.toList) from fun hh => hw ⟨hh.1, hh.2.1⟩)]
   obtain ⟨rfl, rfl⟩ := Prod.mk.inj h2; clear h h2 hw hbd; go_enter Tryz.func111, Tryz.ntmps111
   go_wp2_with (first | (go_at_call 148; refine (hok _).mono ?_; rintro e w1 ⟨rfl, hb1⟩) | (go_at_call 64; refine (aM.calls _ _ _ _ _ hwi.out).mono ?_; rintro e w2 ⟨rfl, ⟨⟨q, rfl⟩⟩⟩) | (go_at_call 149; refine (strconv_Itoa.calls _ _ _ (StopsIn.below hG.out (aq hb1 q)) hit.out).mono ?_; rintro e w3 ⟨rfl, hb3⟩))
   go_ret2
   exact ⟨rfl, aq hb1 q⟩
 ·have hno := b5.atoi_no a0 hs (fun n e => by rw [hA] at e; cases e); have h2 : (0, false) = (r1, r2) := by rw [← h]; unfold b5.v; rw [hA]
  obtain ⟨rfl, rfl⟩ := Prod.mk.inj h2; clear h h2 hA; go_enter Tryz.func111, Tryz.ntmps111
  go_wp2_with (first | (go_at_call 148; refine (hno _ hG.out).mono ?_; rintro e w1 ⟨n, t, p, rfl, hb1⟩))
  go_ret2
  exact ⟨rfl, hb1⟩
 ·have hno := b5.atoi_no a0 hs (fun n e => by rw [hA] at e; cases e); have h2 : (0, false) = (r1, r2) := by rw [← h]; unfold b5.v; rw [hA]
  obtain ⟨rfl, rfl⟩ := Prod.mk.inj h2; clear h h2 hA; go_enter Tryz.func111, Tryz.ntmps111
  go_wp2_with (first | (go_at_call 148; refine (hno _ hG.out).mono ?_; rintro e w1 ⟨n, t, p, rfl, hb1⟩))
  go_ret2
  exact ⟨rfl, hb1⟩
def strings_Split.f (a0 a1 : ByteArray) : Option (List ByteArray) := if a0.size < 4294967281 ∧ 1 ≤ a1.size then some (Lib.splitB a1 0 (Lib.countB a0 a1) a0) else none
theorem strings_Split.calls (a0 a1 : ByteArray) (r : List ByteArray) (w : World) (hG : StopsIn w) (h : strings_Split.f a0 a1 = some r) :
  Calls Tryz.prog 150 #[.string a0, .string a1] w fun e w' => ∃ v0_ : Value, e = .returned (v0_) ∧ Kd.R Kd.string 9 w' w.heap.size (fun _ => True) v0_ r ∧ Below w.heap.size w w' := by
 unfold strings_Split.f at h
 by_cases hs : a0.size < 4294967281 ∧ 1 ≤ a1.size
 case neg => rw [if_neg hs] at h; exact absurd h cN
 rw [if_pos hs] at h; have h := Option.some.inj h; obtain ⟨m, hm⟩ := hG.max; have hle := Lib.countB_le a1 hs.2 a0.size a0 (Nat.le_refl _); have hlen := Lib.splitB_all a1 hs.2 0 _ a0 rfl; rw [h] at hlen; refine (Go.Proofs.Tryz.strings_Split a0 a1 m w hs.1 hm hs.2).mono ?_; rintro e w' ⟨rfl, rfl⟩; rw [h]; refine ⟨_, rfl, ?_, bF (Below.refl _ _) _⟩; have hh : (w.alloc (.cells (r.map Value.string).toArray 9)).heap[w.heap.size]? = some (.cells (r.map Value.string).toArray 9 (0, 0)) := by
  unfold World.alloc
  simp
 have hx := row_mk (enc := Value.string) (h1 := fun _ => rfl) (ok := fun _ => True) (xs := r) (cap := Lib.countB a0 a1 + 1) (Nat.le_refl _) hh u7_ (by have : maxLen = 9223372036854775807 := rfl; omega) (by simp [hlen]) trivial (fun j x hj => by simp [hj]); rw [hlen] at hx; exact hx
def ce.l0 : Nat → List ByteArray → List ByteArray → Int → Int → Option (Bool)
 | 0, _, _, _, _ => none
 | k + 1, x3, x8, x9, x10 => if x10 < x9 then (if 0 ≤ x10 then (if x10 < (x8.length : Int) then ((ap.f k (eA ByteArray.empty x8 x10)).bind fun t135 => (if t135 = true then (ce.l0 k x3 x8 x9 (wrap64 (x10 + 1))) else (some false))) else (none)) else (none)) else (some (decide ((x3.length : Int) ≤ 4)))
def ce.f (k : Nat) (a0 : ByteArray) : Option (Bool) := (strings_Split.f a0 (⟨#[44]⟩ : ByteArray)).bind fun t131 => (ce.l0 k t131 t131 (t131.length : Int) 0)
theorem ce.calls (k : Nat) (a0 : ByteArray) (r : Bool) (w : World) (hG : StopsIn w) (h : ce.f k a0 = some r) :
  Calls Tryz.prog 112 #[.string a0] w fun e w' => e = .returned (.bool r) ∧ Below w.heap.size w w' := by
 have HG_ := am_ hG; clear hG; have HB := am_ (Below.refl w.heap.size w); have H := h; clear h; unfold ce.f at H
 obtain ⟨t131, A2, H⟩ := bi_ H; have H' := am_ H; clear H; go_enter Tryz.func112, Tryz.ntmps112
 go_wp2_with (first | ((with_reducible refine gt_ 7 ?_); refine gf_ 7 Tryz.func150 (strings_Split.calls a0 (⟨#[44]⟩ : ByteArray) t131 _ ?side1 A2.out) ?_; (case side1 => exact kF); rintro e w3 ⟨v132, rfl, ho0, hb⟩; refine ⟨_, rfl, ?_⟩; have HO133 := am_ (Kd.R_lower ho0 (av (bw_ HB))); replace HB := bs_ HB hb; (try clear hb); (try clear ho0); obtain ⟨Ao4, co4, eo4⟩ := Kd.R_slice HO133.out; subst eo4))
 go_loopg [10] k (fun kq v10 w' => ∃ (x10_1 : Int), v10 = .int .i64 x10_1 ∧ aa (ce.l0 kq t131 t131 (t131.length : Int) x10_1 = some r) ∧ aa (kq ≤ k) ∧ aa (Kd.R Kd.string 9 w' w.heap.size (fun _ => True) (.slice Ao4 t131.length co4) t131) ∧ aa (Kd.R Kd.string 9 w' w.heap.size (fun _ => True) (.slice Ao4 t131.length co4) t131) ∧ aa (Below w.heap.size w w'))
 case atStart => exact ⟨(0), u1_, H', ⟨Nat.le_refl _⟩, ⟨aR_ HO133.out⟩, ⟨aR_ HO133.out⟩, ⟨bw_ HB⟩⟩
 case round =>
  clear H'; obtain ⟨x10_1, rfl, HA, HK1, HO_3, HO_8, HB⟩ := hrel; cases gk with
  | zero => exact absurd HA.out (by simp [ce.l0])
  | succ k1 =>
   have H := HA.out; clear HA; simp only [ce.l0] at H; by_cases c5 : x10_1 < (t131.length : Int)
   ·rw [if_pos c5] at H; have c5b0 := decide_eq_true c5; clear c5; obtain ⟨c6b0, H⟩ := gd_ H; obtain ⟨c7b0, H⟩ := gd_ H; obtain ⟨t135, A8, H⟩ := bi_ H; have HC_ := am_ H; clear H; obtain ⟨ad134, e134, hx134_0⟩ := Kd.at_string (Kd.R_reads' HO_8.out).2.2 x10_1 od_ od_; cases e134; obtain ⟨p134, q134⟩ := pt_ x10_1 t131.length; have H := HC_.out; clear HC_; cases t135
    ·replace H := hf_ H; obtain rfl := si_ H; go_wp2_with (first | ((with_reducible refine gt_ 15 ?_); refine gD_ 15 Tryz.func108 (ap.calls k1 (eA ByteArray.empty t131 x10_1) false _ A8.out) ?_; intro nd))
     go_ret
     exact ⟨u0_, bw_ HB⟩
    ·replace H := ht_ H; have H' := am_ H; clear H; go_wp2_with (first | ((with_reducible refine gt_ 15 ?_); refine gD_ 15 Tryz.func108 (ap.calls k1 (eA ByteArray.empty t131 x10_1) true _ A8.out) ?_; intro nd))
     go_roundg k1
     case measure => have := HK1.out; omega
     case rel => exact ⟨(wrap64 (x10_1 + 1)), u1_, H', ⟨dc⟩, ⟨aR_ HO_3.out⟩, ⟨aR_ HO_8.out⟩, ⟨bw_ HB⟩⟩
   ·rw [if_neg c5] at H; have c5b0 := decide_eq_false c5; clear c5; obtain rfl := si_ H; go_wp2; go_ret
    exact ⟨u0_, bw_ HB⟩
theorem aN.fld92_1 (x0 : ByteArray) (x1 : Int) (x2 : Int) (w : World) : (Instr.field 92 (Value.agg #[Value.string x0, Value.int .i64 x1, Value.int .i64 x2]) 1).run Tryz.prog w = .ok (Value.int .i64 x1) w := by kernel_rfl
attribute [local go_sem] aN.fld92_1
mutual
def aN.j0 : Nat → List (S92) → Bool → ByteArray → List (S86) → Option (Bool)
 | 0, _, _, _, _ => none
 | k + 1, x0, x16, x137000, x137001 => if x16 = true then (some false) else (aN.l0 k x0 x137001 (x137001.length : Int) 0)
def aN.l0 : Nat → List (S92) → List (S86) → Int → Int → Option (Bool)
 | 0, _, _, _, _ => none
 | k + 1, x0, x18, x19, x20 => if x20 < x19 then (if 0 ≤ x20 then (if x20 < (x18.length : Int) then ((bf.f k x0 ((ah x18 x20).f0)).bind fun bt141 => (if bt141.2.1 = 1 then (aN.l0 k x0 x18 x19 (wrap64 (x20 + 1))) else (if bt141.2.1 = 2 then ((b5.f ((ah x18 x20).f1)).bind fun bt144 => (if bt144.2 = true then (aN.l0 k x0 x18 x19 (wrap64 (x20 + 1))) else (some false))) else (if bt141.2.1 = 3 then ((ce.f k ((ah x18 x20).f1)).bind fun t146 => (if t146 = true then (aN.l0 k x0 x18 x19 (wrap64 (x20 + 1))) else (some false))) else (some false))))) else (none)) else (none)) else (some true)
end
def aN.f (k : Nat) (l0 : List (S92)) (a1_0 : ByteArray) (l1_1 : List (S86)) : Option (Bool) := (aC.f k l0).bind fun t137 => (if t137 = true then ((bl.f k a1_0 l1_1).bind fun t138 => (aN.j0 k l0 (!t138) a1_0 l1_1)) else (aN.j0 k l0 true a1_0 l1_1))
theorem aN.calls (k : Nat) (A0 : Option Addr) (c0 : Nat) (l0 : List (S92)) (a1_0 : ByteArray) (A1_1 : Option Addr) (c1_1 : Nat) (l1_1 : List (S86)) (r : Bool) (w : World) (hG : StopsIn w) (hr0 : Kd.C k92 w A0 l0.length l0) (hc0 : l0.length ≤ c0) (hr1_1 : Kd.C k86 w A1_1 l1_1.length l1_1) (hc1_1 : l1_1.length ≤ c1_1) (h : aN.f k l0 a1_0 l1_1 = some r) :
  Calls Tryz.prog 65 #[.slice A0 l0.length c0, .agg #[.string a1_0, .slice A1_1 l1_1.length c1_1]] w fun e w' => e = .returned (.bool r) ∧ Below w.heap.size w w' := by
 have hu44 := Tryz.underlying44; have hu86 := Tryz.underlying86; have HG_ := am_ hG; clear hG; have HR0 := am_ hr0; have HC0 := am_ hc0; clear hr0 hc0; have HR1_1 := am_ hr1_1; have HC1_1 := am_ hc1_1; clear hr1_1 hc1_1; have HB := am_ (Below.refl w.heap.size w); have H := h; clear h; unfold aN.f at H
 have HC3 := am_ H; clear H; go_enter Tryz.func65, Tryz.ntmps65
 go_upto_region 1 with (first | ((with_reducible refine gt_ 3 ?_); refine bx_ 3 #[.string a1_0, .slice A1_1 l1_1.length c1_1] 44 ?_; intro gb136 hg w4 hbox hb; have BK136 := am_ (hbox); have GE136 := gw_ HB hg; replace HB := bs_ HB hb; clear hb hbox hg))
 (try simp only [Act.put, List.setIfInBounds_toArray, List.set_cons_zero, List.set_cons_succ])
 go_cut [16] (fun v16 wc => ∃ (kq : Nat) (x16_2 : Bool), v16 = .bool x16_2 ∧ aa (aN.j0 kq l0 x16_2 a1_0 l1_1 = some r) ∧ aa (kq ≤ k) ∧ aa (wc.heap[gb136]? = some (.cells #[.string a1_0, (.slice A1_1 l1_1.length c1_1)] 44 (0, 0))) ∧ aa (Below w.heap.size w wc))
 case first =>
  have H := HC3.out; clear HC3; obtain ⟨t137, A5, H⟩ := bi_ H; cases t137
  ·replace H := hf_ H; have H' := am_ H; clear H; go_wp2_with (first | ((with_reducible refine gt_ 10 ?_); refine gB_ 10 Tryz.func63 (aC.calls k _ _ l0 false _ (kc_ HR0 HB) HC0.out A5.out) ?_; intro w11 hb; replace BK136 := bb_ BK136 hb; replace HB := bs_ HB hb; (try clear hb)))
   go_meet
   case rel => exact ⟨_, (true), u1_, H', ⟨j5⟩, ⟨pb_ BK136⟩, ⟨bw_ HB⟩⟩
  ·replace H := ht_ H; obtain ⟨t138, A7, H⟩ := bi_ H; have H' := am_ H; clear H; go_wp2_with (first | ((with_reducible refine gt_ 10 ?_); refine gB_ 10 Tryz.func63 (aC.calls k _ _ l0 true _ (kc_ HR0 HB) HC0.out A5.out) ?_; intro w8 hb; replace BK136 := bb_ BK136 hb; replace HB := bs_ HB hb; (try clear hb); obtain ⟨hcz9_0, hcz9_1, hfz9_0, hfz9_1⟩ := bK BK136.out) | (go_at_call 109; (with_reducible refine (bl.calls k a1_0 _ _ l1_1 t138 _ (kc_ HR1_1 HB) HC1_1.out A7.out).mono ?_); rintro e w10 ⟨rfl, hb⟩; replace BK136 := bb_ BK136 hb; replace HB := bs_ HB hb; (try clear hb)))
   go_meet
   case rel => exact ⟨_, (!t138), u1_, H', ⟨j5⟩, ⟨pb_ BK136⟩, ⟨bw_ HB⟩⟩
 case rest =>
  clear HC3; obtain ⟨kq, x16_2, rfl, HA, HJ2, BK136, HB⟩ := hcut; cases kq with
  | zero => exact absurd HA.out (by simp [aN.j0])
  | succ kj2 =>
   have H := HA.out; clear HA; simp only [aN.j0] at H; cases x16_2
   ·replace H := hf_ H; have H' := am_ H; clear H; obtain ⟨hcz13_0, hcz13_1, hfz13_0, hfz13_1⟩ := bK BK136.out; go_wp2; go_loopg [20] kj2 (fun kq v20 w' => ∃ (x20_2 : Int), v20 = .int .i64 x20_2 ∧ aa (aN.l0 kq l0 l1_1 (l1_1.length : Int) x20_2 = some r) ∧ aa (kq ≤ kj2) ∧ aa (w'.heap[gb136]? = some (.cells #[.string a1_0, (.slice A1_1 l1_1.length c1_1)] 44 (0, 0))) ∧ aa (Below w.heap.size w w'))
    case atStart => exact ⟨(0), u1_, H', ⟨Nat.le_refl _⟩, ⟨pb_ BK136⟩, ⟨bw_ HB⟩⟩
    case round =>
     clear H'; try clear hcz13_0 hcz13_1 hfz13_0 hfz13_1
     obtain ⟨x20_2, rfl, HA, HK2, BK136, HB⟩ := hrel; cases gk with
     | zero => exact absurd HA.out (by simp [aN.l0])
     | succ k2 =>
      have H := HA.out; clear HA; simp only [aN.l0] at H; by_cases c14 : x20_2 < (l1_1.length : Int)
      ·rw [if_pos c14] at H; have c14b0 := decide_eq_true c14; clear c14; obtain ⟨c15b0, H⟩ := gd_ H; obtain ⟨c16b0, H⟩ := gd_ H; obtain ⟨⟨t141, t142, t143⟩, A17, H⟩ := bi_ H; dsimp only at H; have HC_ := am_ H; clear H; obtain ⟨ad139, e139, hx139_0, hx139_1⟩ := dp HR1_1.out x20_2 od_ od_; cases e139; replace hx139_0 := cb_ HB hx139_0; replace hx139_1 := cb_ HB hx139_1; obtain ⟨p139, q139⟩ := pt_ x20_2 l1_1.length; have H := HC_.out; clear HC_; by_cases c18 : t142 = 1
       ·rw [if_pos c18] at H; have c18b0 := cQ c18; have c18b1 := cO c18; clear c18; have H' := am_ H; clear H; (first | rw [c18b0] | (simp only [ao, au]; rw [c18b0]) | skip)
        go_wp2_with (first | ((with_reducible refine gt_ 6 ?_); refine bx_ 6 #[.string (⟨#[]⟩ : ByteArray), .string (⟨#[]⟩ : ByteArray)] 86 ?_; intro gb140 hg w19 hbox hb; have BK140 := am_ (hbox); have GE140 := gw_ HB hg; replace HB := bs_ HB hb; have NB136_140 := nl_ BK136 hg; have NB140_136 := ng_ BK136 hg; replace BK136 := bb_ BK136 hb; clear hb hbox hg; have hnb20 := NB140_136.out; have hnc20 := NB136_140.out; obtain ⟨hcz21_0, hcz21_1, hfz21_0, hfz21_1⟩ := bK BK140.out) | ((with_reducible refine gt_ 27 ?_); refine gB_ 27 Tryz.func110 (bf.calls k2 _ _ l0 ((ah l1_1 x20_2).f0) t141 t142 t143 _ (kc_ HR0 HB) HC0.out A17.out) ?_; intro w22 hb; replace BK136 := bb_ BK136 hb; replace HB := bs_ HB hb; (try clear hb)))
        go_roundg k2
        case measure => have := HJ2.out; have := HK2.out; omega
        case rel => exact ⟨(wrap64 (x20_2 + 1)), u1_, H', ⟨by have := HJ2.out; have := HK2.out; omega⟩, ⟨pb_ BK136⟩, ⟨bw_ HB⟩⟩
       ·rw [if_neg c18] at H; have c18b0 := cT c18; have c18b1 := cV c18; have HC_ := am_ H; clear H; (first | rw [c18b0] | (simp only [ao, au]; rw [c18b0]) | skip)
        have H := HC_.out; clear HC_; by_cases c23 : t142 = 2
        ·rw [if_pos c23] at H; have c23b0 := cQ c23; have c23b1 := cO c23; clear c23; obtain ⟨⟨t144, t145⟩, A24, H⟩ := bi_ H; dsimp only at H; have HC_ := am_ H; clear H; (first | rw [c23b0] | (simp only [ao, au]; rw [c23b0]) | skip)
         have H := HC_.out; clear HC_; cases t145
         ·replace H := hf_ H; obtain rfl := si_ H; go_wp2_with (first | ((with_reducible refine gt_ 6 ?_); refine bx_ 6 #[.string (⟨#[]⟩ : ByteArray), .string (⟨#[]⟩ : ByteArray)] 86 ?_; intro gb140 hg w32 hbox hb; have BK140 := am_ (hbox); have GE140 := gw_ HB hg; replace HB := bs_ HB hb; have NB136_140 := nl_ BK136 hg; have NB140_136 := ng_ BK136 hg; clear hb hbox hg; have hnb33 := NB140_136.out; have hnc33 := NB136_140.out; obtain ⟨hcz34_0, hcz34_1, hfz34_0, hfz34_1⟩ := bK BK140.out) | ((with_reducible refine gt_ 27 ?_); refine gB_ 27 Tryz.func110 (bf.calls k2 _ _ l0 ((ah l1_1 x20_2).f0) t141 t142 t143 _ (kc_ HR0 HB) HC0.out A17.out) ?_; intro w35 hb; replace BK140 := am_ (aU (g := gb140) (o := .cells #[.string ((ah l1_1 x20_2).f0), .string ((ah l1_1 x20_2).f1)] 86 (0, 0)) (pb_ BK140) hb); replace HB := bs_ HB hb; (try clear hb); obtain ⟨hcz36_0, hcz36_1, hfz36_0, hfz36_1⟩ := bK BK140.out) | ((with_reducible refine gt_ 36 ?_); refine gB_ 36 Tryz.func111 (b5.calls ((ah l1_1 x20_2).f1) t144 false _ ?side1 A24.out) ?_; (case side1 => exact kF); intro w37 hb; replace HB := bs_ HB hb; (try clear hb)))
          go_ret
          exact ⟨u0_, bw_ HB⟩
         ·replace H := ht_ H; have H' := am_ H; clear H; go_wp2_with (first | ((with_reducible refine gt_ 6 ?_); refine bx_ 6 #[.string (⟨#[]⟩ : ByteArray), .string (⟨#[]⟩ : ByteArray)] 86 ?_; intro gb140 hg w26 hbox hb; have BK140 := am_ (hbox); have GE140 := gw_ HB hg; replace HB := bs_ HB hb; have NB136_140 := nl_ BK136 hg; have NB140_136 := ng_ BK136 hg; replace BK136 := bb_ BK136 hb; clear hb hbox hg; have hnb27 := NB140_136.out; have hnc27 := NB136_140.out; obtain ⟨hcz28_0, hcz28_1, hfz28_0, hfz28_1⟩ := bK BK140.out) | ((with_reducible refine gt_ 27 ?_); refine gB_ 27 Tryz.func110 (bf.calls k2 _ _ l0 ((ah l1_1 x20_2).f0) t141 t142 t143 _ (kc_ HR0 HB) HC0.out A17.out) ?_; intro w29 hb; replace BK136 := bb_ BK136 hb; replace BK140 := am_ (aU (g := gb140) (o := .cells #[.string ((ah l1_1 x20_2).f0), .string ((ah l1_1 x20_2).f1)] 86 (0, 0)) (pb_ BK140) hb); replace HB := bs_ HB hb; (try clear hb); obtain ⟨hcz30_0, hcz30_1, hfz30_0, hfz30_1⟩ := bK BK140.out) | ((with_reducible refine gt_ 36 ?_); refine gB_ 36 Tryz.func111 (b5.calls ((ah l1_1 x20_2).f1) t144 true _ ?side1 A24.out) ?_; (case side1 => exact kF); intro w31 hb; replace BK136 := bb_ BK136 hb; replace HB := bs_ HB hb; (try clear hb)))
          go_roundg k2
          case measure => have := HJ2.out; have := HK2.out; omega
          case rel => exact ⟨(wrap64 (x20_2 + 1)), u1_, H', ⟨by have := HJ2.out; have := HK2.out; omega⟩, ⟨pb_ BK136⟩, ⟨bw_ HB⟩⟩
        ·rw [if_neg c23] at H; have c23b0 := cT c23; have c23b1 := cV c23; have HC_ := am_ H; clear H; (first | rw [c23b0] | (simp only [ao, au]; rw [c23b0]) | skip)
         have H := HC_.out; clear HC_; by_cases c38 : t142 = 3
         ·rw [if_pos c38] at H; have c38b0 := cQ c38; have c38b1 := cO c38; clear c38; obtain ⟨t146, A39, H⟩ := bi_ H; have HC_ := am_ H; clear H; (first | rw [c38b0] | (simp only [ao, au]; rw [c38b0]) | skip)
          have H := HC_.out; clear HC_; cases t146
          ·replace H := hf_ H; obtain rfl := si_ H; go_wp2_with (first | ((with_reducible refine gt_ 6 ?_); refine bx_ 6 #[.string (⟨#[]⟩ : ByteArray), .string (⟨#[]⟩ : ByteArray)] 86 ?_; intro gb140 hg w47 hbox hb; have BK140 := am_ (hbox); have GE140 := gw_ HB hg; replace HB := bs_ HB hb; have NB136_140 := nl_ BK136 hg; have NB140_136 := ng_ BK136 hg; clear hb hbox hg; have hnb48 := NB140_136.out; have hnc48 := NB136_140.out; obtain ⟨hcz49_0, hcz49_1, hfz49_0, hfz49_1⟩ := bK BK140.out) | ((with_reducible refine gt_ 27 ?_); refine gB_ 27 Tryz.func110 (bf.calls k2 _ _ l0 ((ah l1_1 x20_2).f0) t141 t142 t143 _ (kc_ HR0 HB) HC0.out A17.out) ?_; intro w50 hb; replace BK140 := am_ (aU (g := gb140) (o := .cells #[.string ((ah l1_1 x20_2).f0), .string ((ah l1_1 x20_2).f1)] 86 (0, 0)) (pb_ BK140) hb); replace HB := bs_ HB hb; (try clear hb); obtain ⟨hcz51_0, hcz51_1, hfz51_0, hfz51_1⟩ := bK BK140.out) | ((with_reducible refine gt_ 45 ?_); refine gB_ 45 Tryz.func112 (ce.calls k2 ((ah l1_1 x20_2).f1) false _ ?side1 A39.out) ?_; (case side1 => exact kF); intro w52 hb; replace HB := bs_ HB hb; (try clear hb)))
           go_ret
           exact ⟨u0_, bw_ HB⟩
          ·replace H := ht_ H; have H' := am_ H; clear H; go_wp2_with (first | ((with_reducible refine gt_ 6 ?_); refine bx_ 6 #[.string (⟨#[]⟩ : ByteArray), .string (⟨#[]⟩ : ByteArray)] 86 ?_; intro gb140 hg w41 hbox hb; have BK140 := am_ (hbox); have GE140 := gw_ HB hg; replace HB := bs_ HB hb; have NB136_140 := nl_ BK136 hg; have NB140_136 := ng_ BK136 hg; replace BK136 := bb_ BK136 hb; clear hb hbox hg; have hnb42 := NB140_136.out; have hnc42 := NB136_140.out; obtain ⟨hcz43_0, hcz43_1, hfz43_0, hfz43_1⟩ := bK BK140.out) | ((with_reducible refine gt_ 27 ?_); refine gB_ 27 Tryz.func110 (bf.calls k2 _ _ l0 ((ah l1_1 x20_2).f0) t141 t142 t143 _ (kc_ HR0 HB) HC0.out A17.out) ?_; intro w44 hb; replace BK136 := bb_ BK136 hb; replace BK140 := am_ (aU (g := gb140) (o := .cells #[.string ((ah l1_1 x20_2).f0), .string ((ah l1_1 x20_2).f1)] 86 (0, 0)) (pb_ BK140) hb); replace HB := bs_ HB hb; (try clear hb); obtain ⟨hcz45_0, hcz45_1, hfz45_0, hfz45_1⟩ := bK BK140.out) | ((with_reducible refine gt_ 45 ?_); refine gB_ 45 Tryz.func112 (ce.calls k2 ((ah l1_1 x20_2).f1) true _ ?side1 A39.out) ?_; (case side1 => exact kF); intro w46 hb; replace BK136 := bb_ BK136 hb; replace HB := bs_ HB hb; (try clear hb)))
           go_roundg k2
           case measure => have := HJ2.out; have := HK2.out; omega
           case rel => exact ⟨(wrap64 (x20_2 + 1)), u1_, H', ⟨by have := HJ2.out; have := HK2.out; omega⟩, ⟨pb_ BK136⟩, ⟨bw_ HB⟩⟩
         ·rw [if_neg c38] at H; have c38b0 := cT c38; have c38b1 := cV c38; obtain rfl := si_ H; (first | rw [c38b0] | (simp only [ao, au]; rw [c38b0]) | skip)
          go_wp2_with (first | ((with_reducible refine gt_ 6 ?_); refine bx_ 6 #[.string (⟨#[]⟩ : ByteArray), .string (⟨#[]⟩ : ByteArray)] 86 ?_; intro gb140 hg w53 hbox hb; have BK140 := am_ (hbox); have GE140 := gw_ HB hg; replace HB := bs_ HB hb; have NB136_140 := nl_ BK136 hg; have NB140_136 := ng_ BK136 hg; clear hb hbox hg; have hnb54 := NB140_136.out; have hnc54 := NB136_140.out; obtain ⟨hcz55_0, hcz55_1, hfz55_0, hfz55_1⟩ := bK BK140.out) | ((with_reducible refine gt_ 27 ?_); refine gB_ 27 Tryz.func110 (bf.calls k2 _ _ l0 ((ah l1_1 x20_2).f0) t141 t142 t143 _ (kc_ HR0 HB) HC0.out A17.out) ?_; intro w56 hb; replace HB := bs_ HB hb; (try clear hb)))
          go_ret
          exact ⟨u0_, bw_ HB⟩
      ·rw [if_neg c14] at H; have c14b0 := decide_eq_false c14; clear c14; obtain rfl := si_ H; go_wp2; go_ret
       exact ⟨u0_, bw_ HB⟩
   ·replace H := ht_ H; obtain rfl := si_ H; go_wp2; go_ret
    exact ⟨u0_, bw_ HB⟩
def d6 (key : ByteArray) : Nat → List S46 → Int
 | _, [] => -1
 | i, x :: l => if (x.f1.f0.toList == key.toList) = true then (i : Int) else d6 key (i + 1) l
theorem rf {P : Program} {ops : Array Oper} {Q : Exit → Act → World → Prop} {rest : List Oper} {oi : Oper} {a : Act} {w : World} (N : Option Tmp) (hd : oi.dst = N) (hg : oi.guard = none) {f : FuncId} {n : Tmp} {cb : Array Value} (hv : a.eval (.tmp n) = .func (.func f) #[] cb) {fn : Func} {ags : Array Operand} {ts : Array TypeId} (hf : P.funcs[f]? = some fn) (hname : (fn.name == "runtime.NumGoroutine") = false) (hb : fn.body.isSome = true) (args : Array Value)
  (hop : oi.op = .call { callee := .value (.tmp n), args := ags, argTypes := ts }) (hargs : ags.map a.eval ++ cb = args)
  (h : Calls P f args w fun e w' => ∃ v, e = .returned v ∧ wpList P ops Q rest (a.put N v) w') : wpList P ops Q (oi :: rest) a w := by
 refine wpList_plain hg fun K hK => ?_
 have he := Go.Proofs.YtnjjdojonflckaaGreatDoorW.PrintLast.enters_ hf hname hb args w; have hrun : (execOp a.eval oi).run P w = .ok (.enter f args) w := by
  unfold execOp
  simp [hop, hv, resolve, Deferred.ofValue, invoke, hargs, he]
 unfold Oper.wp
 rw [hrun, Oper.upon_enter]; refine h.mono fun e w'' hh => ?_
 obtain ⟨v, rfl, hk⟩ := hh; subst hd; exact hK _ _ hk
theorem rb (id : Int) (k0 : ByteArray) (A : Option Addr) (n c g : Nat) (key : ByteArray) (w : World) (hk : w.cell? ⟨g, 0, none⟩ = some (.string key)) :
  Calls Tryz.prog 114 #[.agg #[.int .i64 id, .string k0, .slice A n c], .pointer (some ⟨g, 0, none⟩)] w fun e w' => e = .returned (.bool (k0.toList == key.toList)) ∧ Below w.heap.size w w' := by
 have hu0_ := Tryz.underlying46; have HB := am_ (Below.refl w.heap.size w); go_enter Tryz.func114, Tryz.ntmps114
 go_wp2_with (first | ((with_reducible refine gt_ 2 ?_); refine bx_ 2 #[.int .i64 id, .string k0, .slice A n c] 46 ?_; intro gb hg w2 hbox hb; have BK := am_ hbox; have hk2 := (hb.cell (World.block_lt_of_cell? _ _ hk)).trans hk; replace HB := am_ (bE HB.out hb); clear hb hbox hg hk; have hcz_0 : w2.cell? ⟨gb, 0, none⟩ = some (.int .i64 id) := (bn BK.out 0).trans rfl; have hcz_1 : w2.cell? ⟨gb, 1, none⟩ = some (.string k0) := (bn BK.out 1).trans rfl))
 go_ret
 exact ⟨rfl, HB.out⟩
theorem rowIdx (A : Option Addr) (c : Nat) (l : List S46) (g : Nat) (key : ByteArray) (w : World) (hr : Kd.C k46 w A l.length l) (hk : w.cell? ⟨g, 0, none⟩ = some (.string key)) (hn : l.length ≤ 9223372036854775807) :
  Calls Tryz.prog 113 #[.slice A l.length c, .func (.func 114) #[] #[.pointer (some ⟨g, 0, none⟩)]] w fun e w' => e = .returned (.int .i64 (d6 key 0 l)) ∧ Below w.heap.size w w' := by
 have hu0_ := Tryz.underlying46; have HB := am_ (Below.refl w.heap.size w); have HR := am_ hr; have HK := am_ hk; clear hr hk; go_enter Tryz.func113, Tryz.ntmps113
 go_wp2; go_loopw [8] (fun v wr => ∃ i : Nat, v = .int .i64 (i : Int) ∧ i ≤ l.length ∧ aa (d6 key 0 l = d6 key i (l.drop i)) ∧ aa (Below w.heap.size w wr)) (fun v _ => match v with | .int _ i => l.length - i.toNat | _ => 0)
 case atStart => exact ⟨0, rfl, Nat.zero_le _, ⟨rfl⟩, HB⟩
 case round =>
  clear HB; obtain ⟨i, rfl, hi, HE, HB⟩ := hrel; rcases Nat.lt_or_ge i l.length with hlt | hge
  ·obtain ⟨ad, A2, c2, e, hx0, hx1, hx2, _, _⟩ := fP HR.out (i : Int) u7_ u7_; cases e; replace hx0 := cb_ HB hx0; replace hx1 := cb_ HB hx1; replace hx2 := cb_ HB hx2; simp only [Int.toNat_natCast] at hx0 hx1 hx2; have hkr := (HB.out.cell (World.block_lt_of_cell? w _ HK.out)).trans HK.out; have hrd : ac l (i : Int) = l[i] := by
    unfold ac; simp [List.getD_eq_getElem?_getD, List.getElem?_eq_getElem hlt]
   have hst : d6 key i (l.drop i) = if ((ac l (i : Int)).f1.f0.toList == key.toList) = true then (i : Int) else d6 key (i + 1) (l.drop (i + 1)) := by
    rw [List.drop_eq_getElem_cons hlt, hrd]; rfl
   have HS := am_ hst; clear hst hrd; have p1 : ((i : Int) < (l.length : Int)) = True := eq_true u7_; have p0 : (0 ≤ (i : Int)) = True := eq_true u7_; have HX := am_ hkr; clear hkr; generalize hm_ : ((ac l (i : Int)).f1.f0.toList == key.toList) = mm at HS; have HM := am_ hm_; clear hm_; cases mm
   ·go_wp2_with (first | ((with_reducible refine fa (_f := 114) rfl ?_); refine rf (some 16) rfl rfl cI Tryz.func114 b9 rfl #[.agg #[.int .i64 (ac l (i : Int)).f0, .string (ac l (i : Int)).f1.f0, .slice A2 (ac l (i : Int)).f1.f1.length c2], .pointer (some ⟨g, 0, none⟩)] rfl u65_ ?_; (with_reducible refine (rb _ _ _ _ _ g key _ HX.out).mono ?_); rintro e w3 ⟨rfl, hb⟩; refine ⟨_, rfl, ?_⟩; replace HB := am_ (bE HB.out hb); clear hb; rw [HM.out]))
    go_roundw
    case rel => exact ⟨i + 1, gx, u7_, ⟨HE.out.trans (HS.out.trans (if_neg bs))⟩, HB⟩
    case measure => simp; omega
   ·go_wp2_with (first | ((with_reducible refine fa (_f := 114) rfl ?_); refine rf (some 16) rfl rfl cI Tryz.func114 b9 rfl #[.agg #[.int .i64 (ac l (i : Int)).f0, .string (ac l (i : Int)).f1.f0, .slice A2 (ac l (i : Int)).f1.f1.length c2], .pointer (some ⟨g, 0, none⟩)] rfl u65_ ?_; (with_reducible refine (rb _ _ _ _ _ g key _ HX.out).mono ?_); rintro e w3 ⟨rfl, hb⟩; refine ⟨_, rfl, ?_⟩; replace HB := am_ (bE HB.out hb); clear hb; rw [HM.out]))
    go_ret
    exact ⟨by rw [HE.out, HS.out]; rfl, HB.out⟩
  ·have hil : i = l.length := by omega
   subst hil; have p1 : (((l.length : Nat) : Int) < (l.length : Int)) = False := eq_false u7_; go_wp2; go_ret
   refine ⟨?_, HB.out⟩; rw [HE.out, List.drop_eq_nil_of_le (Nat.le_refl _)]; rfl
def da.f (_a0_0 : List (S92)) (a0_1 : List (S46)) (_a0_2 : List (S76)) (_a0_3 : Int) (a1 : ByteArray) : Option Int := some (d6 a1 0 a0_1)
theorem da.calls (A0_0 : Option Addr) (c0_0 : Nat) (l0_0 : List (S92)) (A0_1 : Option Addr) (c0_1 : Nat) (l0_1 : List (S46)) (A0_2 : Option Addr) (c0_2 : Nat) (l0_2 : List (S76)) (a0_3 : Int) (a1 : ByteArray) (r : Int) (w : World) (hr0_0 : Kd.C k92 w A0_0 l0_0.length l0_0) (hc0_0 : l0_0.length ≤ c0_0) (hr0_1 : Kd.C k46 w A0_1 l0_1.length l0_1) (hc0_1 : l0_1.length ≤ c0_1) (hr0_2 : Kd.C k76 w A0_2 l0_2.length l0_2) (hc0_2 : l0_2.length ≤ c0_2) (h : da.f l0_0 l0_1 l0_2 a0_3 a1 = some r) :
  Calls Tryz.prog 66 #[.agg #[.slice A0_0 l0_0.length c0_0, .slice A0_1 l0_1.length c0_1, .slice A0_2 l0_2.length c0_2, .int .i64 a0_3], .string a1] w fun e w' => e = .returned (.int .i64 r) ∧ Below w.heap.size w w' := by
 obtain rfl := Option.some.inj h; have hu0_ := Tryz.underlying27; have hu1_ := Tryz.underlying9; have hlen := hr0_1.2.1; have HB := am_ (Below.refl w.heap.size w); have HR := am_ hr0_1; clear hr0_0 hc0_0 hr0_1 hc0_1 hr0_2 hc0_2 h; go_enter Tryz.func66, Tryz.ntmps66
 go_wp2_with (first | ((with_reducible refine gt_ 2 ?_); refine bx_ 2 #[.slice A0_0 l0_0.length c0_0, .slice A0_1 l0_1.length c0_1, .slice A0_2 l0_2.length c0_2, .int .i64 a0_3] 27 ?_; intro gb hg w2 hbox hb; have BK := am_ hbox; replace HB := am_ (bE HB.out hb); clear hb hbox hg) | ((with_reducible refine gt_ 3 ?_); refine bx_ 3 #[.string a1] 9 ?_; intro gk hg w3 hbox hb; replace BK := am_ (aU (g := gb) (o := .cells #[.slice A0_0 l0_0.length c0_0, .slice A0_1 l0_1.length c0_1, .slice A0_2 l0_2.length c0_2, .int .i64 a0_3] 27 (0, 0)) BK.out hb); have BQ := am_ hbox; replace HB := am_ (bE HB.out hb); clear hb hbox hg; have hcz_1 : w3.cell? ⟨gb, 1, none⟩ = some (.slice A0_1 l0_1.length c0_1) := (bn BK.out 1).trans rfl; have HKK := am_ (show w3.cell? ⟨gk, 0, none⟩ = some (.string a1) from (bn BQ.out 0).trans rfl)) | ((with_reducible refine ei (f := 113) rfl ?_); refine gG (some 8) rfl rfl Tryz.func113 b9 rfl #[.slice A0_1 l0_1.length c0_1, .func (.func 114) #[] #[.pointer (some ⟨gk, 0, none⟩)]] rfl (by first | rfl | (simp only [List.map_toArray, List.map_cons, List.map_nil]; rfl)) ?_; (with_reducible refine (rowIdx A0_1 c0_1 l0_1 gk a1 _ (Kd.C_below HR.out HB.out) HKK.out hlen).mono ?_); rintro e w4 ⟨rfl, hb⟩; refine ⟨_, rfl, ?_⟩; replace HB := am_ (bE HB.out hb); clear hb))
 go_ret
 exact ⟨rfl, HB.out⟩
def aG.l0 : Nat → List Int → List Int → Int → Int → Option (Bool)
 | 0, _, _, _, _ => none
 | k + 1, x0, x1, x12, x13 => if x13 < x12 then (if 0 ≤ x13 then (if x13 < (x0.length : Int) then (if x13 < (x1.length : Int) then (if (rd x0 x13) = (rd x1 x13) then (aG.l0 k x0 x1 x12 (wrap64 (x13 + 1))) else (some false)) else (none)) else (none)) else (none)) else (some true)
def aG.f (k : Nat) (l0 : List Int) (l1 : List Int) : Option (Bool) := if (l0.length : Int) = (l1.length : Int) then (aG.l0 k l0 l1 (l0.length : Int) 0) else (some false)
theorem aG.calls (k : Nat) (A0 : Option Addr) (c0 : Nat) (l0 : List Int) (A1 : Option Addr) (c1 : Nat) (l1 : List Int) (r : Bool) (w : World) (hr0 : Kd.C (Kd.int .i64) w A0 l0.length l0) (hc0 : l0.length ≤ c0) (hr1 : Kd.C (Kd.int .i64) w A1 l1.length l1) (hc1 : l1.length ≤ c1) (h : aG.f k l0 l1 = some r) :
  Calls Tryz.prog 154 #[.slice A0 l0.length c0, .slice A1 l1.length c1] w fun e w' => e = .returned (.bool r) ∧ Drawn0 w w' := by
 have HR0 := am_ hr0; have HC0 := am_ hc0; clear hr0 hc0; have HR1 := am_ hr1; have HC1 := am_ hc1; clear hr1 hc1; have H := h; clear h; unfold aG.f at H
 by_cases c3 : (l0.length : Int) = (l1.length : Int)
 ·rw [if_pos c3] at H; have c3b0 := cQ c3; have c3b1 := cO c3; have c3b2 : (l0.length == l1.length) = true := by first | simpa using c3 | (simp at c3 ⊢; omega)
  clear c3; have H' := am_ H; clear H; go_enter Tryz.func154, Tryz.ntmps154
  go_wp2; repeat (go_quiet (fail); try go_wp2)
  go_loopg [13] k (fun kq v13 w' => ∃ (x13_1 : Int), v13 = .int .i64 x13_1 ∧ aa (aG.l0 kq l0 l1 (l0.length : Int) x13_1 = some r) ∧ aa (kq ≤ k) ∧ Drawn0 w w')
  case atStart => exact ⟨(0), u1_, H', ⟨Nat.le_refl _⟩, u3_⟩
  case round =>
   clear H'; try clear c1
   try clear c3
   try clear c3b0
   try clear c3b1
   try clear c3b2
   obtain ⟨x13_1, rfl, HA, HK1, ⟨m1, rfl⟩⟩ := hrel; cases gk with
   | zero => exact absurd HA.out (by simp [aG.l0])
   | succ k1 =>
    have H := HA.out; clear HA; simp only [aG.l0] at H; by_cases c4 : x13_1 < (l0.length : Int)
    ·rw [if_pos c4] at H; have c4b0 := decide_eq_true c4; clear c4; obtain ⟨c5b0, H⟩ := gd_ H; obtain ⟨c6b0, H⟩ := gd_ H; obtain ⟨c7b0, H⟩ := gd_ H; have HC_ := am_ H; clear H; obtain ⟨ad147, e147, hx147_0⟩ := Kd.at_int HR0.out x13_1 od_ od_; cases e147; obtain ⟨p147, q147⟩ := pt_ x13_1 l0.length; obtain ⟨ad148, e148, hx148_0⟩ := Kd.at_int HR1.out x13_1 od_ od_; cases e148; obtain ⟨p148, q148⟩ := pt_ x13_1 l1.length; have H := HC_.out; clear HC_; by_cases c8 : (rd l0 x13_1) = (rd l1 x13_1)
     ·rw [if_pos c8] at H; have c8b0 := cQ c8; have c8b1 := cO c8; clear c8; have H' := am_ H; clear H; (first | rw [c8b0] | (simp only [ao, au]; rw [c8b0]) | skip)
      go_wp2; repeat (go_quiet (fail); try go_wp2)
      go_roundg k1
      case measure => have := HK1.out; omega
      case rel => exact ⟨(wrap64 (x13_1 + 1)), u1_, H', ⟨dc⟩, u3_⟩
     ·rw [if_neg c8] at H; have c8b0 := cT c8; have c8b1 := cV c8; obtain rfl := si_ H; (first | rw [c8b0] | (simp only [ao, au]; rw [c8b0]) | skip)
      go_wp2; repeat (go_quiet (fail); try go_wp2)
      go_ret
      exact ⟨u4_, u3_⟩
    ·rw [if_neg c4] at H; have c4b0 := decide_eq_false c4; clear c4; obtain rfl := si_ H; go_wp2; repeat (go_quiet (fail); try go_wp2)
     go_ret
     exact ⟨u4_, u3_⟩
 ·rw [if_neg c3] at H; have c3b0 := cT c3; have c3b1 := cV c3; have c3b2 : (l0.length == l1.length) = false := by first | simpa using c3 | (simp at c3 ⊢; omega)
  obtain rfl := si_ H; go_enter Tryz.func154, Tryz.ntmps154
  go_wp2; repeat (go_quiet (fail); try go_wp2)
  go_ret
  exact ⟨u4_, u3_⟩
def dq.f (k : Nat) (a0_0 : Int) (l0_1 : List Int) (a1_0 : Int) (l1_1 : List Int) : Option (Bool) := if a0_0 = a1_0 then ((aG.f k l0_1 l1_1).bind fun t151 => (some t151)) else (some false)
theorem dq.calls (k : Nat) (a0_0 : Int) (A0_1 : Option Addr) (c0_1 : Nat) (l0_1 : List Int) (a1_0 : Int) (A1_1 : Option Addr) (c1_1 : Nat) (l1_1 : List Int) (r : Bool) (w : World) (hr0_1 : Kd.C (Kd.int .i64) w A0_1 l0_1.length l0_1) (hc0_1 : l0_1.length ≤ c0_1) (hr1_1 : Kd.C (Kd.int .i64) w A1_1 l1_1.length l1_1) (hc1_1 : l1_1.length ≤ c1_1) (h : dq.f k a0_0 l0_1 a1_0 l1_1 = some r) :
  Calls Tryz.prog 120 #[.agg #[.int .i64 a0_0, .slice A0_1 l0_1.length c0_1], .agg #[.int .i64 a1_0, .slice A1_1 l1_1.length c1_1]] w fun e w' => e = .returned (.bool r) ∧ Below w.heap.size w w' := by
 have hu50 := Tryz.underlying50; have HR0_1 := am_ hr0_1; have HC0_1 := am_ hc0_1; clear hr0_1 hc0_1; have HR1_1 := am_ hr1_1; have HC1_1 := am_ hc1_1; clear hr1_1 hc1_1; have HB := am_ (Below.refl w.heap.size w); have H := h; clear h; unfold dq.f at H
 by_cases c3 : a0_0 = a1_0
 ·rw [if_pos c3] at H; have c3b0 := cQ c3; have c3b1 := cO c3; clear c3; obtain ⟨t151, A4, H⟩ := bi_ H; obtain rfl := si_ H; go_enter Tryz.func120, Tryz.ntmps120
  go_wp2_with (first | ((with_reducible refine gt_ 2 ?_); refine bx_ 2 #[.int .i64 a0_0, .slice A0_1 l0_1.length c0_1] 50 ?_; intro gb149 hg w5 hbox hb; have BK149 := am_ (hbox); have GE149 := gw_ HB hg; replace HB := bs_ HB hb; clear hb hbox hg) | ((with_reducible refine gt_ 3 ?_); refine bx_ 3 #[.int .i64 a1_0, .slice A1_1 l1_1.length c1_1] 50 ?_; intro gb150 hg w6 hbox hb; have BK150 := am_ (hbox); have GE150 := gw_ HB hg; replace HB := bs_ HB hb; have NB149_150 := nl_ BK149 hg; have NB150_149 := ng_ BK149 hg; replace BK149 := bb_ BK149 hb; clear hb hbox hg; have hnb7 := NB149_150.out; have hnc7 := NB150_149.out; obtain ⟨hcz8_0, hcz8_1, hfz8_0, hfz8_1⟩ := bK BK149.out; obtain ⟨hcz9_0, hcz9_1, hfz9_0, hfz9_1⟩ := bK BK150.out) | (go_at_call 154; (with_reducible refine (aG.calls k _ _ l0_1 _ _ l1_1 t151 _ (kc_ HR0_1 HB) HC0_1.out (kc_ HR1_1 HB) HC1_1.out A4.out).mono ?_); rintro e w' ⟨rfl, ⟨nd, rfl⟩⟩))
  go_ret
  exact ⟨u0_, bw_ HB⟩
 ·rw [if_neg c3] at H; have c3b0 := cT c3; have c3b1 := cV c3; obtain rfl := si_ H; go_enter Tryz.func120, Tryz.ntmps120
  go_wp2_with (first | ((with_reducible refine gt_ 2 ?_); refine bx_ 2 #[.int .i64 a0_0, .slice A0_1 l0_1.length c0_1] 50 ?_; intro gb149 hg w10 hbox hb; have BK149 := am_ (hbox); have GE149 := gw_ HB hg; replace HB := bs_ HB hb; clear hb hbox hg) | ((with_reducible refine gt_ 3 ?_); refine bx_ 3 #[.int .i64 a1_0, .slice A1_1 l1_1.length c1_1] 50 ?_; intro gb150 hg w11 hbox hb; have BK150 := am_ (hbox); have GE150 := gw_ HB hg; replace HB := bs_ HB hb; have NB149_150 := nl_ BK149 hg; have NB150_149 := ng_ BK149 hg; replace BK149 := bb_ BK149 hb; clear hb hbox hg; have hnb12 := NB149_150.out; have hnc12 := NB150_149.out; obtain ⟨hcz13_0, hcz13_1, hfz13_0, hfz13_1⟩ := bK BK149.out; obtain ⟨hcz14_0, hcz14_1, hfz14_0, hfz14_1⟩ := bK BK150.out))
  go_ret
  exact ⟨u0_, bw_ HB⟩
def de.l0 : Nat → List (S50) → List (S50) → Int → Int → Option (Bool)
 | 0, _, _, _, _ => none
 | k + 1, x1, x15, x16, x17 => if x17 < x16 then (if 0 ≤ x17 then (if x17 < (x15.length : Int) then (if x17 < (x1.length : Int) then ((dq.f k ((bb x15 x17).f0) ((bb x15 x17).f1) ((bb x1 x17).f0) ((bb x1 x17).f1)).bind fun t156 => (if t156 = true then (de.l0 k x1 x15 x16 (wrap64 (x17 + 1))) else (some false))) else (none)) else (none)) else (none)) else (some true)
def de.f (k : Nat) (l0 : List (S50)) (l1 : List (S50)) : Option (Bool) := if (l0.length : Int) = (l1.length : Int) then (de.l0 k l1 l0 (l0.length : Int) 0) else (some false)
theorem de.calls (k : Nat) (A0 : Option Addr) (c0 : Nat) (l0 : List (S50)) (A1 : Option Addr) (c1 : Nat) (l1 : List (S50)) (r : Bool) (w : World) (hr0 : Kd.C k50 w A0 l0.length l0) (hc0 : l0.length ≤ c0) (hr1 : Kd.C k50 w A1 l1.length l1) (hc1 : l1.length ≤ c1) (h : de.f k l0 l1 = some r) :
  Calls Tryz.prog 119 #[.slice A0 l0.length c0, .slice A1 l1.length c1, .func (.func 120) #[] #[]] w fun e w' => e = .returned (.bool r) ∧ Below w.heap.size w w' := by
 have hu50 := Tryz.underlying50; have HR0 := am_ hr0; have HC0 := am_ hc0; clear hr0 hc0; have HR1 := am_ hr1; have HC1 := am_ hc1; clear hr1 hc1; have HB := am_ (Below.refl w.heap.size w); have H := h; clear h; unfold de.f at H
 by_cases c3 : (l0.length : Int) = (l1.length : Int)
 ·rw [if_pos c3] at H; have c3b0 := cQ c3; have c3b1 := cO c3; have c3b2 : (l0.length == l1.length) = true := by first | simpa using c3 | (simp at c3 ⊢; omega)
  clear c3; have H' := am_ H; clear H; go_enter Tryz.func119, Tryz.ntmps119
  go_wp2; go_loopg [17] k (fun kq v17 w' => ∃ (x17_1 : Int), v17 = .int .i64 x17_1 ∧ aa (de.l0 kq l1 l0 (l0.length : Int) x17_1 = some r) ∧ aa (kq ≤ k) ∧ aa (Below w.heap.size w w'))
  case atStart => exact ⟨(0), u1_, H', ⟨Nat.le_refl _⟩, ⟨bw_ HB⟩⟩
  case round =>
   clear H'; try clear c1
   try clear c3
   try clear c3b0
   try clear c3b1
   try clear c3b2
   obtain ⟨x17_1, rfl, HA, HK1, HB⟩ := hrel; cases gk with
   | zero => exact absurd HA.out (by simp [de.l0])
   | succ k1 =>
    have H := HA.out; clear HA; simp only [de.l0] at H; by_cases c4 : x17_1 < (l0.length : Int)
    ·rw [if_pos c4] at H; have c4b0 := decide_eq_true c4; clear c4; obtain ⟨c5b0, H⟩ := gd_ H; obtain ⟨c6b0, H⟩ := gd_ H; obtain ⟨c7b0, H⟩ := gd_ H; obtain ⟨t156, A8, H⟩ := bi_ H; have HC_ := am_ H; clear H; obtain ⟨ad152, A152_1, c152_1, e152, hx152_0, hx152_1, hl152_1, hi152_1⟩ := iE HR0.out x17_1 od_ od_; cases e152; replace hx152_0 := cb_ HB hx152_0; replace hx152_1 := cb_ HB hx152_1; have HR152_1 := am_ hi152_1; have HC152_1 := am_ hl152_1; clear hi152_1 hl152_1; obtain ⟨p152, q152⟩ := pt_ x17_1 l0.length; have H := HC_.out; clear HC_; cases t156
     ·replace H := hf_ H; obtain rfl := si_ H; go_wp2_with (first | ((with_reducible refine gt_ 8 ?_); refine bx_ 8 #[.int .i64 0, .slice none 0 0] 50 ?_; intro gb153 hg w17 hbox hb; have BK153 := am_ (hbox); have GW153 := gw_ HB hg; have GE153 := GW153; replace HB := bs_ HB hb; clear hb hbox hg; obtain ⟨hcz18_0, hcz18_1, hfz18_0, hfz18_1⟩ := bK BK153.out; obtain ⟨p154, q154⟩ := pq_ x17_1 l1.length; obtain ⟨ad154, A154_1, c154_1, e154, hx154_0, hx154_1, hl154_1, hi154_1⟩ := iE HR1.out x17_1 p154 q154; cases e154; have hn154_0 : ad154.block ≠ gb153 := Nat.ne_of_lt (Nat.lt_of_lt_of_le u34_ GW153.out); have hn154_1 : ad154.block ≠ gb153 := Nat.ne_of_lt (Nat.lt_of_lt_of_le u34_ GW153.out); replace hx154_0 := cb_ HB hx154_0; replace hx154_1 := cb_ HB hx154_1; have HR154_1 := am_ hi154_1; have HC154_1 := am_ hl154_1; clear hi154_1 hl154_1; replace hx154_0 := (aH (p := ⟨gb153, 0, none⟩) u27_ (.int .i64 ((bb l0 x17_1).f0))).trans hx154_0; replace hx154_1 := (aH (p := ⟨gb153, 0, none⟩) u27_ (.int .i64 ((bb l0 x17_1).f0))).trans hx154_1; replace hx154_0 := (aH (p := ⟨gb153, 1, none⟩) u28_ (.slice A152_1 ((bb l0 x17_1).f1).length c152_1)).trans hx154_0; replace hx154_1 := (aH (p := ⟨gb153, 1, none⟩) u28_ (.slice A152_1 ((bb l0 x17_1).f1).length c152_1)).trans hx154_1; clear hn154_0 hn154_1; obtain ⟨p154, q154⟩ := tt_ p154 q154) | ((with_reducible refine gt_ 9 ?_); refine bx_ 9 #[.int .i64 0, .slice none 0 0] 50 ?_; intro gb155 hg w19 hbox hb; have BK155 := am_ (hbox); have GE155 := gw_ HB hg; replace HB := bs_ HB hb; have NB153_155 := Nb.mk ((by rw [hg]; exact Nat.ne_of_lt (dO (g := gb153) (o := .cells #[.int .i64 ((bb l0 x17_1).f0), .slice A152_1 ((bb l0 x17_1).f1).length c152_1] 50 (0, 0)) (pb_ BK153)) : gb153 ≠ gb155)); have NB155_153 := Nb.mk ((by rw [hg]; exact Nat.ne_of_gt (dO (g := gb153) (o := .cells #[.int .i64 ((bb l0 x17_1).f0), .slice A152_1 ((bb l0 x17_1).f1).length c152_1] 50 (0, 0)) (pb_ BK153)) : gb155 ≠ gb153)); replace BK153 := am_ (aU (g := gb153) (o := .cells #[.int .i64 ((bb l0 x17_1).f0), .slice A152_1 ((bb l0 x17_1).f1).length c152_1] 50 (0, 0)) (pb_ BK153) hb); clear hb hbox hg; have hnb20 := NB155_153.out; have hnc20 := NB153_155.out; obtain ⟨hcz21_0, hcz21_1, hfz21_0, hfz21_1⟩ := bK BK155.out; obtain ⟨hcz22_0, hcz22_1, hfz22_0, hfz22_1⟩ := bK BK153.out) | ((with_reducible refine fa (_f := 120) rfl ?_); refine mZ (some 29) rfl rfl cI Tryz.func120 b9 rfl #[.agg #[.int .i64 ((bb l0 x17_1).f0), .slice A152_1 ((bb l0 x17_1).f1).length c152_1], .agg #[.int .i64 ((bb l1 x17_1).f0), .slice A154_1 ((bb l1 x17_1).f1).length c154_1]] rfl u23_ ?_; (with_reducible refine (dq.calls k1 ((bb l0 x17_1).f0) _ _ ((bb l0 x17_1).f1) ((bb l1 x17_1).f0) _ _ ((bb l1 x17_1).f1) false _ (kc_ HR152_1 HB) HC152_1.out (kc_ HR154_1 HB) HC154_1.out A8.out).mono ?_); rintro e w23 ⟨rfl, hb⟩; refine ⟨_, rfl, ?_⟩; replace HB := bs_ HB hb; (try clear hb)))
      go_ret
      exact ⟨u0_, bw_ HB⟩
     ·replace H := ht_ H; have H' := am_ H; clear H; go_wp2_with (first | ((with_reducible refine gt_ 8 ?_); refine bx_ 8 #[.int .i64 0, .slice none 0 0] 50 ?_; intro gb153 hg w10 hbox hb; have BK153 := am_ (hbox); have GW153 := gw_ HB hg; have GE153 := GW153; replace HB := bs_ HB hb; clear hb hbox hg; obtain ⟨hcz11_0, hcz11_1, hfz11_0, hfz11_1⟩ := bK BK153.out; obtain ⟨p154, q154⟩ := pq_ x17_1 l1.length; obtain ⟨ad154, A154_1, c154_1, e154, hx154_0, hx154_1, hl154_1, hi154_1⟩ := iE HR1.out x17_1 p154 q154; cases e154; have hn154_0 : ad154.block ≠ gb153 := Nat.ne_of_lt (Nat.lt_of_lt_of_le u34_ GW153.out); have hn154_1 : ad154.block ≠ gb153 := Nat.ne_of_lt (Nat.lt_of_lt_of_le u34_ GW153.out); replace hx154_0 := cb_ HB hx154_0; replace hx154_1 := cb_ HB hx154_1; have HR154_1 := am_ hi154_1; have HC154_1 := am_ hl154_1; clear hi154_1 hl154_1; replace hx154_0 := (aH (p := ⟨gb153, 0, none⟩) u27_ (.int .i64 ((bb l0 x17_1).f0))).trans hx154_0; replace hx154_1 := (aH (p := ⟨gb153, 0, none⟩) u27_ (.int .i64 ((bb l0 x17_1).f0))).trans hx154_1; replace hx154_0 := (aH (p := ⟨gb153, 1, none⟩) u28_ (.slice A152_1 ((bb l0 x17_1).f1).length c152_1)).trans hx154_0; replace hx154_1 := (aH (p := ⟨gb153, 1, none⟩) u28_ (.slice A152_1 ((bb l0 x17_1).f1).length c152_1)).trans hx154_1; clear hn154_0 hn154_1; obtain ⟨p154, q154⟩ := tt_ p154 q154) | ((with_reducible refine gt_ 9 ?_); refine bx_ 9 #[.int .i64 0, .slice none 0 0] 50 ?_; intro gb155 hg w12 hbox hb; have BK155 := am_ (hbox); have GE155 := gw_ HB hg; replace HB := bs_ HB hb; have NB153_155 := Nb.mk ((by rw [hg]; exact Nat.ne_of_lt (dO (g := gb153) (o := .cells #[.int .i64 ((bb l0 x17_1).f0), .slice A152_1 ((bb l0 x17_1).f1).length c152_1] 50 (0, 0)) (pb_ BK153)) : gb153 ≠ gb155)); have NB155_153 := Nb.mk ((by rw [hg]; exact Nat.ne_of_gt (dO (g := gb153) (o := .cells #[.int .i64 ((bb l0 x17_1).f0), .slice A152_1 ((bb l0 x17_1).f1).length c152_1] 50 (0, 0)) (pb_ BK153)) : gb155 ≠ gb153)); replace BK153 := am_ (aU (g := gb153) (o := .cells #[.int .i64 ((bb l0 x17_1).f0), .slice A152_1 ((bb l0 x17_1).f1).length c152_1] 50 (0, 0)) (pb_ BK153) hb); clear hb hbox hg; have hnb13 := NB155_153.out; have hnc13 := NB153_155.out; obtain ⟨hcz14_0, hcz14_1, hfz14_0, hfz14_1⟩ := bK BK155.out; obtain ⟨hcz15_0, hcz15_1, hfz15_0, hfz15_1⟩ := bK BK153.out) | ((with_reducible refine fa (_f := 120) rfl ?_); refine mZ (some 29) rfl rfl cI Tryz.func120 b9 rfl #[.agg #[.int .i64 ((bb l0 x17_1).f0), .slice A152_1 ((bb l0 x17_1).f1).length c152_1], .agg #[.int .i64 ((bb l1 x17_1).f0), .slice A154_1 ((bb l1 x17_1).f1).length c154_1]] rfl u23_ ?_; (with_reducible refine (dq.calls k1 ((bb l0 x17_1).f0) _ _ ((bb l0 x17_1).f1) ((bb l1 x17_1).f0) _ _ ((bb l1 x17_1).f1) true _ (kc_ HR152_1 HB) HC152_1.out (kc_ HR154_1 HB) HC154_1.out A8.out).mono ?_); rintro e w16 ⟨rfl, hb⟩; refine ⟨_, rfl, ?_⟩; replace HB := bs_ HB hb; (try clear hb)))
      go_roundg k1
      case measure => have := HK1.out; omega
      case rel => exact ⟨(wrap64 (x17_1 + 1)), u1_, H', ⟨dc⟩, ⟨bw_ HB⟩⟩
    ·rw [if_neg c4] at H; have c4b0 := decide_eq_false c4; clear c4; obtain rfl := si_ H; go_wp2; go_ret
     exact ⟨u0_, bw_ HB⟩
 ·rw [if_neg c3] at H; have c3b0 := cT c3; have c3b1 := cV c3; have c3b2 : (l0.length == l1.length) = false := by first | simpa using c3 | (simp at c3 ⊢; omega)
  obtain rfl := si_ H; go_enter Tryz.func119, Tryz.ntmps119
  go_wp2; go_ret
  exact ⟨u0_, bw_ HB⟩
def dj.f (k : Nat) (a0_0 : ByteArray) (a0_1 : ByteArray) (l0_2 : List (S50)) (a1_0 : ByteArray) (a1_1 : ByteArray) (l1_2 : List (S50)) : Option (Bool) := if a0_0.toList = a1_0.toList then (if a0_1.toList = a1_1.toList then ((de.f k l0_2 l1_2).bind fun t159 => (some t159)) else (some false)) else (some false)
theorem dj.calls (k : Nat) (a0_0 : ByteArray) (a0_1 : ByteArray) (A0_2 : Option Addr) (c0_2 : Nat) (l0_2 : List (S50)) (a1_0 : ByteArray) (a1_1 : ByteArray) (A1_2 : Option Addr) (c1_2 : Nat) (l1_2 : List (S50)) (r : Bool) (w : World) (hr0_2 : Kd.C k50 w A0_2 l0_2.length l0_2) (hc0_2 : l0_2.length ≤ c0_2) (hr1_2 : Kd.C k50 w A1_2 l1_2.length l1_2) (hc1_2 : l1_2.length ≤ c1_2) (h : dj.f k a0_0 a0_1 l0_2 a1_0 a1_1 l1_2 = some r) :
  Calls Tryz.prog 69 #[.agg #[.string a0_0, .string a0_1, .slice A0_2 l0_2.length c0_2], .agg #[.string a1_0, .string a1_1, .slice A1_2 l1_2.length c1_2]] w fun e w' => e = .returned (.bool r) ∧ Below w.heap.size w w' := by
 have hu76 := Tryz.underlying76; have HR0_2 := am_ hr0_2; have HC0_2 := am_ hc0_2; clear hr0_2 hc0_2; have HR1_2 := am_ hr1_2; have HC1_2 := am_ hc1_2; clear hr1_2 hc1_2; have HB := am_ (Below.refl w.heap.size w); have H := h; clear h; unfold dj.f at H
 by_cases c3 : a0_0.toList = a1_0.toList
 ·rw [if_pos c3] at H; have c3b0 := cQ c3; have c3b1 := cO c3; clear c3; by_cases c4 : a0_1.toList = a1_1.toList
  ·rw [if_pos c4] at H; have c4b0 := cQ c4; have c4b1 := cO c4; clear c4; obtain ⟨t159, A5, H⟩ := bi_ H; obtain rfl := si_ H; go_enter Tryz.func69, Tryz.ntmps69
   go_wp2_with (first | ((with_reducible refine gt_ 2 ?_); refine bx_ 2 #[.string a0_0, .string a0_1, .slice A0_2 l0_2.length c0_2] 76 ?_; intro gb157 hg w6 hbox hb; have BK157 := am_ (hbox); have GE157 := gw_ HB hg; replace HB := bs_ HB hb; clear hb hbox hg) | ((with_reducible refine gt_ 3 ?_); refine bx_ 3 #[.string a1_0, .string a1_1, .slice A1_2 l1_2.length c1_2] 76 ?_; intro gb158 hg w7 hbox hb; have BK158 := am_ (hbox); have GE158 := gw_ HB hg; replace HB := bs_ HB hb; have NB157_158 := nl_ BK157 hg; have NB158_157 := ng_ BK157 hg; replace BK157 := bb_ BK157 hb; clear hb hbox hg; have hnb8 := NB157_158.out; have hnc8 := NB158_157.out; obtain ⟨hcz9_0, hcz9_1, hcz9_2, hfz9_0, hfz9_1, hfz9_2⟩ := bO BK157.out; obtain ⟨hcz10_0, hcz10_1, hcz10_2, hfz10_0, hfz10_1, hfz10_2⟩ := bO BK158.out) | (go_at_call 119; (with_reducible refine (de.calls k _ _ l0_2 _ _ l1_2 t159 _ (kc_ HR0_2 HB) HC0_2.out (kc_ HR1_2 HB) HC1_2.out A5.out).mono ?_); rintro e w11 ⟨rfl, hb⟩; replace HB := bs_ HB hb; (try clear hb)))
   go_ret
   exact ⟨u0_, bw_ HB⟩
  ·rw [if_neg c4] at H; have c4b0 := cT c4; have c4b1 := cV c4; obtain rfl := si_ H; go_enter Tryz.func69, Tryz.ntmps69
   go_wp2_with (first | ((with_reducible refine gt_ 2 ?_); refine bx_ 2 #[.string a0_0, .string a0_1, .slice A0_2 l0_2.length c0_2] 76 ?_; intro gb157 hg w12 hbox hb; have BK157 := am_ (hbox); have GE157 := gw_ HB hg; replace HB := bs_ HB hb; clear hb hbox hg) | ((with_reducible refine gt_ 3 ?_); refine bx_ 3 #[.string a1_0, .string a1_1, .slice A1_2 l1_2.length c1_2] 76 ?_; intro gb158 hg w13 hbox hb; have BK158 := am_ (hbox); have GE158 := gw_ HB hg; replace HB := bs_ HB hb; have NB157_158 := nl_ BK157 hg; have NB158_157 := ng_ BK157 hg; replace BK157 := bb_ BK157 hb; clear hb hbox hg; have hnb14 := NB157_158.out; have hnc14 := NB158_157.out; obtain ⟨hcz15_0, hcz15_1, hcz15_2, hfz15_0, hfz15_1, hfz15_2⟩ := bO BK157.out; obtain ⟨hcz16_0, hcz16_1, hcz16_2, hfz16_0, hfz16_1, hfz16_2⟩ := bO BK158.out))
   go_ret
   exact ⟨u0_, bw_ HB⟩
 ·rw [if_neg c3] at H; have c3b0 := cT c3; have c3b1 := cV c3; obtain rfl := si_ H; go_enter Tryz.func69, Tryz.ntmps69
  go_wp2_with (first | ((with_reducible refine gt_ 2 ?_); refine bx_ 2 #[.string a0_0, .string a0_1, .slice A0_2 l0_2.length c0_2] 76 ?_; intro gb157 hg w17 hbox hb; have BK157 := am_ (hbox); have GE157 := gw_ HB hg; replace HB := bs_ HB hb; clear hb hbox hg) | ((with_reducible refine gt_ 3 ?_); refine bx_ 3 #[.string a1_0, .string a1_1, .slice A1_2 l1_2.length c1_2] 76 ?_; intro gb158 hg w18 hbox hb; have BK158 := am_ (hbox); have GE158 := gw_ HB hg; replace HB := bs_ HB hb; have NB157_158 := nl_ BK157 hg; have NB158_157 := ng_ BK157 hg; replace BK157 := bb_ BK157 hb; clear hb hbox hg; have hnb19 := NB157_158.out; have hnc19 := NB158_157.out; obtain ⟨hcz20_0, hcz20_1, hcz20_2, hfz20_0, hfz20_1, hfz20_2⟩ := bO BK157.out; obtain ⟨hcz21_0, hcz21_1, hcz21_2, hfz21_0, hfz21_1, hfz21_2⟩ := bO BK158.out))
  go_ret
  exact ⟨u0_, bw_ HB⟩
def cF.l0 : Nat → List (S76) → List (S76) → Int → Int → Option (Bool)
 | 0, _, _, _, _ => none
 | k + 1, x1, x15, x16, x17 => if x17 < x16 then (if 0 ≤ x17 then (if x17 < (x15.length : Int) then (if x17 < (x1.length : Int) then ((dj.f k ((aj x15 x17).f0) ((aj x15 x17).f1) ((aj x15 x17).f2) ((aj x1 x17).f0) ((aj x1 x17).f1) ((aj x1 x17).f2)).bind fun t164 => (if t164 = true then (cF.l0 k x1 x15 x16 (wrap64 (x17 + 1))) else (some false))) else (none)) else (none)) else (none)) else (some true)
def cF.f (k : Nat) (l0 : List (S76)) (l1 : List (S76)) : Option (Bool) := if (l0.length : Int) = (l1.length : Int) then (cF.l0 k l1 l0 (l0.length : Int) 0) else (some false)
theorem cF.calls (k : Nat) (A0 : Option Addr) (c0 : Nat) (l0 : List (S76)) (A1 : Option Addr) (c1 : Nat) (l1 : List (S76)) (r : Bool) (w : World) (hr0 : Kd.C k76 w A0 l0.length l0) (hc0 : l0.length ≤ c0) (hr1 : Kd.C k76 w A1 l1.length l1) (hc1 : l1.length ≤ c1) (h : cF.f k l0 l1 = some r) :
  Calls Tryz.prog 67 #[.slice A0 l0.length c0, .slice A1 l1.length c1, .func (.func 69) #[] #[]] w fun e w' => e = .returned (.bool r) ∧ Below w.heap.size w w' := by
 have hu76 := Tryz.underlying76; have HR0 := am_ hr0; have HC0 := am_ hc0; clear hr0 hc0; have HR1 := am_ hr1; have HC1 := am_ hc1; clear hr1 hc1; have HB := am_ (Below.refl w.heap.size w); have H := h; clear h; unfold cF.f at H
 by_cases c3 : (l0.length : Int) = (l1.length : Int)
 ·rw [if_pos c3] at H; have c3b0 := cQ c3; have c3b1 := cO c3; have c3b2 : (l0.length == l1.length) = true := by first | simpa using c3 | (simp at c3 ⊢; omega)
  clear c3; have H' := am_ H; clear H; go_enter Tryz.func67, Tryz.ntmps67
  go_wp2; go_loopg [17] k (fun kq v17 w' => ∃ (x17_1 : Int), v17 = .int .i64 x17_1 ∧ aa (cF.l0 kq l1 l0 (l0.length : Int) x17_1 = some r) ∧ aa (kq ≤ k) ∧ aa (Below w.heap.size w w'))
  case atStart => exact ⟨(0), u1_, H', ⟨Nat.le_refl _⟩, ⟨bw_ HB⟩⟩
  case round =>
   clear H'; try clear c1
   try clear c3
   try clear c3b0
   try clear c3b1
   try clear c3b2
   obtain ⟨x17_1, rfl, HA, HK1, HB⟩ := hrel; cases gk with
   | zero => exact absurd HA.out (by simp [cF.l0])
   | succ k1 =>
    have H := HA.out; clear HA; simp only [cF.l0] at H; by_cases c4 : x17_1 < (l0.length : Int)
    ·rw [if_pos c4] at H; have c4b0 := decide_eq_true c4; clear c4; obtain ⟨c5b0, H⟩ := gd_ H; obtain ⟨c6b0, H⟩ := gd_ H; obtain ⟨c7b0, H⟩ := gd_ H; obtain ⟨t164, A8, H⟩ := bi_ H; have HC_ := am_ H; clear H; obtain ⟨ad160, A160_2, c160_2, e160, hx160_0, hx160_1, hx160_2, hl160_2, hi160_2⟩ := em HR0.out x17_1 od_ od_; cases e160; replace hx160_0 := cb_ HB hx160_0; replace hx160_1 := cb_ HB hx160_1; replace hx160_2 := cb_ HB hx160_2; have HR160_2 := am_ hi160_2; have HC160_2 := am_ hl160_2; clear hi160_2 hl160_2; obtain ⟨p160, q160⟩ := pt_ x17_1 l0.length; have H := HC_.out; clear HC_; cases t164
     ·replace H := hf_ H; obtain rfl := si_ H; go_wp2_with (first | ((with_reducible refine gt_ 8 ?_); refine bx_ 8 #[.string (⟨#[]⟩ : ByteArray), .string (⟨#[]⟩ : ByteArray), .slice none 0 0] 76 ?_; intro gb161 hg w17 hbox hb; have BK161 := am_ (hbox); have GW161 := gw_ HB hg; have GE161 := GW161; replace HB := bs_ HB hb; clear hb hbox hg; obtain ⟨hcz18_0, hcz18_1, hcz18_2, hfz18_0, hfz18_1, hfz18_2⟩ := bO BK161.out; obtain ⟨p162, q162⟩ := pq_ x17_1 l1.length; obtain ⟨ad162, A162_2, c162_2, e162, hx162_0, hx162_1, hx162_2, hl162_2, hi162_2⟩ := em HR1.out x17_1 p162 q162; cases e162; have hn162_0 : ad162.block ≠ gb161 := Nat.ne_of_lt (Nat.lt_of_lt_of_le u22_ GW161.out); have hn162_1 : ad162.block ≠ gb161 := Nat.ne_of_lt (Nat.lt_of_lt_of_le u22_ GW161.out); have hn162_2 : ad162.block ≠ gb161 := Nat.ne_of_lt (Nat.lt_of_lt_of_le u22_ GW161.out); replace hx162_0 := cb_ HB hx162_0; replace hx162_1 := cb_ HB hx162_1; replace hx162_2 := cb_ HB hx162_2; have HR162_2 := am_ hi162_2; have HC162_2 := am_ hl162_2; clear hi162_2 hl162_2; replace hx162_0 := (aH (p := ⟨gb161, 0, none⟩) u16_ (.string ((aj l0 x17_1).f0))).trans hx162_0; replace hx162_1 := (aH (p := ⟨gb161, 0, none⟩) u16_ (.string ((aj l0 x17_1).f0))).trans hx162_1; replace hx162_2 := (aH (p := ⟨gb161, 0, none⟩) u16_ (.string ((aj l0 x17_1).f0))).trans hx162_2; replace hx162_0 := (aH (p := ⟨gb161, 1, none⟩) u17_ (.string ((aj l0 x17_1).f1))).trans hx162_0; replace hx162_1 := (aH (p := ⟨gb161, 1, none⟩) u17_ (.string ((aj l0 x17_1).f1))).trans hx162_1; replace hx162_2 := (aH (p := ⟨gb161, 1, none⟩) u17_ (.string ((aj l0 x17_1).f1))).trans hx162_2; replace hx162_0 := (aH (p := ⟨gb161, 2, none⟩) u18_ (.slice A160_2 ((aj l0 x17_1).f2).length c160_2)).trans hx162_0; replace hx162_1 := (aH (p := ⟨gb161, 2, none⟩) u18_ (.slice A160_2 ((aj l0 x17_1).f2).length c160_2)).trans hx162_1; replace hx162_2 := (aH (p := ⟨gb161, 2, none⟩) u18_ (.slice A160_2 ((aj l0 x17_1).f2).length c160_2)).trans hx162_2; clear hn162_0 hn162_1 hn162_2; obtain ⟨p162, q162⟩ := tt_ p162 q162) | ((with_reducible refine gt_ 9 ?_); refine bx_ 9 #[.string (⟨#[]⟩ : ByteArray), .string (⟨#[]⟩ : ByteArray), .slice none 0 0] 76 ?_; intro gb163 hg w19 hbox hb; have BK163 := am_ (hbox); have GE163 := gw_ HB hg; replace HB := bs_ HB hb; have NB161_163 := Nb.mk ((by rw [hg]; exact Nat.ne_of_lt (dO (g := gb161) (o := .cells #[.string ((aj l0 x17_1).f0), .string ((aj l0 x17_1).f1), .slice A160_2 ((aj l0 x17_1).f2).length c160_2] 76 (0, 0)) (pb_ BK161)) : gb161 ≠ gb163)); have NB163_161 := Nb.mk ((by rw [hg]; exact Nat.ne_of_gt (dO (g := gb161) (o := .cells #[.string ((aj l0 x17_1).f0), .string ((aj l0 x17_1).f1), .slice A160_2 ((aj l0 x17_1).f2).length c160_2] 76 (0, 0)) (pb_ BK161)) : gb163 ≠ gb161)); replace BK161 := am_ (aU (g := gb161) (o := .cells #[.string ((aj l0 x17_1).f0), .string ((aj l0 x17_1).f1), .slice A160_2 ((aj l0 x17_1).f2).length c160_2] 76 (0, 0)) (pb_ BK161) hb); clear hb hbox hg; have hnb20 := NB163_161.out; have hnc20 := NB161_163.out; obtain ⟨hcz21_0, hcz21_1, hcz21_2, hfz21_0, hfz21_1, hfz21_2⟩ := bO BK163.out; obtain ⟨hcz22_0, hcz22_1, hcz22_2, hfz22_0, hfz22_1, hfz22_2⟩ := bO BK161.out) | ((with_reducible refine fa (_f := 69) rfl ?_); refine mZ (some 29) rfl rfl cI Tryz.func69 b9 rfl #[.agg #[.string ((aj l0 x17_1).f0), .string ((aj l0 x17_1).f1), .slice A160_2 ((aj l0 x17_1).f2).length c160_2], .agg #[.string ((aj l1 x17_1).f0), .string ((aj l1 x17_1).f1), .slice A162_2 ((aj l1 x17_1).f2).length c162_2]] rfl u23_ ?_; (with_reducible refine (dj.calls k1 ((aj l0 x17_1).f0) ((aj l0 x17_1).f1) _ _ ((aj l0 x17_1).f2) ((aj l1 x17_1).f0) ((aj l1 x17_1).f1) _ _ ((aj l1 x17_1).f2) false _ (kc_ HR160_2 HB) HC160_2.out (kc_ HR162_2 HB) HC162_2.out A8.out).mono ?_); rintro e w23 ⟨rfl, hb⟩; refine ⟨_, rfl, ?_⟩; replace HB := bs_ HB hb; (try clear hb)))
      go_ret
      exact ⟨u0_, bw_ HB⟩
     ·replace H := ht_ H; have H' := am_ H; clear H; go_wp2_with (first | ((with_reducible refine gt_ 8 ?_); refine bx_ 8 #[.string (⟨#[]⟩ : ByteArray), .string (⟨#[]⟩ : ByteArray), .slice none 0 0] 76 ?_; intro gb161 hg w10 hbox hb; have BK161 := am_ (hbox); have GW161 := gw_ HB hg; have GE161 := GW161; replace HB := bs_ HB hb; clear hb hbox hg; obtain ⟨hcz11_0, hcz11_1, hcz11_2, hfz11_0, hfz11_1, hfz11_2⟩ := bO BK161.out; obtain ⟨p162, q162⟩ := pq_ x17_1 l1.length; obtain ⟨ad162, A162_2, c162_2, e162, hx162_0, hx162_1, hx162_2, hl162_2, hi162_2⟩ := em HR1.out x17_1 p162 q162; cases e162; have hn162_0 : ad162.block ≠ gb161 := Nat.ne_of_lt (Nat.lt_of_lt_of_le u22_ GW161.out); have hn162_1 : ad162.block ≠ gb161 := Nat.ne_of_lt (Nat.lt_of_lt_of_le u22_ GW161.out); have hn162_2 : ad162.block ≠ gb161 := Nat.ne_of_lt (Nat.lt_of_lt_of_le u22_ GW161.out); replace hx162_0 := cb_ HB hx162_0; replace hx162_1 := cb_ HB hx162_1; replace hx162_2 := cb_ HB hx162_2; have HR162_2 := am_ hi162_2; have HC162_2 := am_ hl162_2; clear hi162_2 hl162_2; replace hx162_0 := (aH (p := ⟨gb161, 0, none⟩) u16_ (.string ((aj l0 x17_1).f0))).trans hx162_0; replace hx162_1 := (aH (p := ⟨gb161, 0, none⟩) u16_ (.string ((aj l0 x17_1).f0))).trans hx162_1; replace hx162_2 := (aH (p := ⟨gb161, 0, none⟩) u16_ (.string ((aj l0 x17_1).f0))).trans hx162_2; replace hx162_0 := (aH (p := ⟨gb161, 1, none⟩) u17_ (.string ((aj l0 x17_1).f1))).trans hx162_0; replace hx162_1 := (aH (p := ⟨gb161, 1, none⟩) u17_ (.string ((aj l0 x17_1).f1))).trans hx162_1; replace hx162_2 := (aH (p := ⟨gb161, 1, none⟩) u17_ (.string ((aj l0 x17_1).f1))).trans hx162_2; replace hx162_0 := (aH (p := ⟨gb161, 2, none⟩) u18_ (.slice A160_2 ((aj l0 x17_1).f2).length c160_2)).trans hx162_0; replace hx162_1 := (aH (p := ⟨gb161, 2, none⟩) u18_ (.slice A160_2 ((aj l0 x17_1).f2).length c160_2)).trans hx162_1; replace hx162_2 := (aH (p := ⟨gb161, 2, none⟩) u18_ (.slice A160_2 ((aj l0 x17_1).f2).length c160_2)).trans hx162_2; clear hn162_0 hn162_1 hn162_2; obtain ⟨p162, q162⟩ := tt_ p162 q162) | ((with_reducible refine gt_ 9 ?_); refine bx_ 9 #[.string (⟨#[]⟩ : ByteArray), .string (⟨#[]⟩ : ByteArray), .slice none 0 0] 76 ?_; intro gb163 hg w12 hbox hb; have BK163 := am_ (hbox); have GE163 := gw_ HB hg; replace HB := bs_ HB hb; have NB161_163 := Nb.mk ((by rw [hg]; exact Nat.ne_of_lt (dO (g := gb161) (o := .cells #[.string ((aj l0 x17_1).f0), .string ((aj l0 x17_1).f1), .slice A160_2 ((aj l0 x17_1).f2).length c160_2] 76 (0, 0)) (pb_ BK161)) : gb161 ≠ gb163)); have NB163_161 := Nb.mk ((by rw [hg]; exact Nat.ne_of_gt (dO (g := gb161) (o := .cells #[.string ((aj l0 x17_1).f0), .string ((aj l0 x17_1).f1), .slice A160_2 ((aj l0 x17_1).f2).length c160_2] 76 (0, 0)) (pb_ BK161)) : gb163 ≠ gb161)); replace BK161 := am_ (aU (g := gb161) (o := .cells #[.string ((aj l0 x17_1).f0), .string ((aj l0 x17_1).f1), .slice A160_2 ((aj l0 x17_1).f2).length c160_2] 76 (0, 0)) (pb_ BK161) hb); clear hb hbox hg; have hnb13 := NB163_161.out; have hnc13 := NB161_163.out; obtain ⟨hcz14_0, hcz14_1, hcz14_2, hfz14_0, hfz14_1, hfz14_2⟩ := bO BK163.out; obtain ⟨hcz15_0, hcz15_1, hcz15_2, hfz15_0, hfz15_1, hfz15_2⟩ := bO BK161.out) | ((with_reducible refine fa (_f := 69) rfl ?_); refine mZ (some 29) rfl rfl cI Tryz.func69 b9 rfl #[.agg #[.string ((aj l0 x17_1).f0), .string ((aj l0 x17_1).f1), .slice A160_2 ((aj l0 x17_1).f2).length c160_2], .agg #[.string ((aj l1 x17_1).f0), .string ((aj l1 x17_1).f1), .slice A162_2 ((aj l1 x17_1).f2).length c162_2]] rfl u23_ ?_; (with_reducible refine (dj.calls k1 ((aj l0 x17_1).f0) ((aj l0 x17_1).f1) _ _ ((aj l0 x17_1).f2) ((aj l1 x17_1).f0) ((aj l1 x17_1).f1) _ _ ((aj l1 x17_1).f2) true _ (kc_ HR160_2 HB) HC160_2.out (kc_ HR162_2 HB) HC162_2.out A8.out).mono ?_); rintro e w16 ⟨rfl, hb⟩; refine ⟨_, rfl, ?_⟩; replace HB := bs_ HB hb; (try clear hb)))
      go_roundg k1
      case measure => have := HK1.out; omega
      case rel => exact ⟨(wrap64 (x17_1 + 1)), u1_, H', ⟨dc⟩, ⟨bw_ HB⟩⟩
    ·rw [if_neg c4] at H; have c4b0 := decide_eq_false c4; clear c4; obtain rfl := si_ H; go_wp2; go_ret
     exact ⟨u0_, bw_ HB⟩
 ·rw [if_neg c3] at H; have c3b0 := cT c3; have c3b1 := cV c3; have c3b2 : (l0.length == l1.length) = false := by first | simpa using c3 | (simp at c3 ⊢; omega)
  obtain rfl := si_ H; go_enter Tryz.func67, Tryz.ntmps67
  go_wp2; go_ret
  exact ⟨u0_, bw_ HB⟩
def df.f (a0 : Int) : Option (Bool) := if a0 ≥ 65 then (some (decide (a0 ≤ 90))) else (some false)
theorem df.calls (a0 : Int) (r : Bool) (w : World) (h : df.f a0 = some r) :
  Calls Tryz.prog 132 #[.int .u8 a0] w fun e w' => e = .returned (.bool r) ∧ Drawn0 w w' := by
 have H := h; clear h; unfold df.f at H
 by_cases c2 : a0 ≥ 65
 ·rw [if_pos c2] at H; have c2b0 : decide (65 ≤ a0) = true := decide_eq_true c2; clear c2; obtain rfl := si_ H; go_enter Tryz.func132, Tryz.ntmps132
  go_wp2; go_ret
  exact ⟨u4_, u3_⟩
 ·rw [if_neg c2] at H; have c2b0 : decide (65 ≤ a0) = false := decide_eq_false c2; clear c2; obtain rfl := si_ H; go_enter Tryz.func132, Tryz.ntmps132
  go_wp2; go_ret
  exact ⟨u4_, u3_⟩
def dv (c : Int) : Int := if 65 ≤ c ∧ c ≤ 90 then c + 32 else c
def fb.f (a0 : ByteArray) : Option (ByteArray) := if a0.size ≤ 70368744177664 then some (strOfNums ((ak a0).map dv)) else none
def Buf8 (W : World) (B : Nat) (xs : List Int) : Prop := ∀ j, j < xs.length → W.cell? ⟨B, j, none⟩ = some (.int .u8 (xs.getD j 0)) ∧ W.frozen? ⟨B, j, none⟩ = false
theorem Buf8.set {W : World} {B : Nat} {xs : List Int} (h : Buf8 W B xs) (i : Nat) (v : Int) : Buf8 (W.setCell ⟨B, i, none⟩ (.int .u8 v)) B (xs.set i v) := by
 intro j hj; rw [List.length_set] at hj; have hc := h j hj; refine ⟨?_, by rw [World.frozen?_setCell]; exact hc.2⟩; by_cases e : i = j
 ·subst e; rw [World.cell?_setCell_same _ _ _ hc.1]; simp [List.getD_eq_getElem?_getD, hj]
 ·rw [World.cell?_setCell_other _ _ _ _ (by simp [e]), hc.1]; simp [List.getD_eq_getElem?_getD, List.getElem?_set_ne e]
theorem Buf8.drewN {W : World} {B : Nat} {xs : List Int} (h : Buf8 W B xs) (n : Nat) : Buf8 (W.drewN n) B xs := h
theorem pY (W : World) (e : TypeId) (s : ByteArray) : Buf8 (Lib.bytesWorld W e s) W.heap.size (ak s) := by
 intro j hj; rw [bR] at hj; constructor
 ·rw [Lib.bytesWorld_cell W e s j hj]; have h' : j < s.data.toList.length := by rw [fK]; exact hj
  simp [ak, List.getD_eq_getElem?_getD, List.getElem?_eq_getElem h']
 ·unfold World.frozen?
  rw [Lib.bytesWorld_at_new]; have h1 : s.size ≤ (Lib.bytesCells W e s).size := by
   unfold Lib.bytesCells
   rw [Array.size_append, Array.size_map]; exact Nat.le_add_right _ _
  show (decide ((Lib.bytesCells W e s).size ≤ j) && decide (j < (Lib.bytesCells W e s).size + 1)) = false
  rw [decide_eq_false u7_]; rfl
theorem ml (l : List Int) (k : Nat) (h : k < l.length) : (l.take (k + 1)).map dv = (l.take k).map dv ++ [dv l[k]] := by
 rw [List.take_add_one, List.getElem?_eq_getElem h, List.map_append]; rfl
theorem gO (l : List Int) (k : Nat) (h : k ≤ l.length) : ((l.take k).map dv).length = k := by
 rw [List.length_map, List.length_take]; omega
theorem qW (l : List Int) (k : Nat) (h : k < l.length) : ((l.take k).map dv ++ l.drop k).getD k 0 = l[k] := by
 rw [List.getD_eq_getElem?_getD, List.getElem?_append_right (by rw [gO l k u7_]; exact Nat.le_refl _), gO l k u7_, Nat.sub_self, List.drop_eq_getElem_cons h]; rfl
theorem ri (l : List Int) (k : Nat) (h : k < l.length) (v : Int) (hv : dv l[k] = v) : ((l.take k).map dv ++ l.drop k).set k v = (l.take (k + 1)).map dv ++ l.drop (k + 1) := by
 rw [List.set_append_right _ _ (by rw [gO l k u7_]; exact Nat.le_refl _), gO l k u7_, Nat.sub_self, ml l k h, List.drop_eq_getElem_cons h, List.append_assoc, hv]; rfl
theorem p8 (l : List Int) (k : Nat) (h : k < l.length) (hv : dv l[k] = l[k]) : (l.take k).map dv ++ l.drop k = (l.take (k + 1)).map dv ++ l.drop (k + 1) := by
 rw [ml l k h, List.drop_eq_getElem_cons h, List.append_assoc, hv]; rfl
theorem qY (l : List Int) : (l.take l.length).map dv ++ l.drop l.length = l.map dv := by
 rw [List.take_length, List.drop_length, List.append_nil]
theorem nU (c : Int) : df.f c = some (decide (65 ≤ c ∧ c ≤ 90)) := by
 unfold df.f
 by_cases h : c ≥ 65
 ·rw [if_pos h]; congr 1; exact decide_eq_decide.2 u7_
 ·rw [if_neg h]; congr 1; symm; exact decide_eq_false u7_
set_option maxHeartbeats 2000000 in
theorem fb.calls (a0 : ByteArray) (r : ByteArray) (w : World) (h : fb.f a0 = some r) :
  Calls Tryz.prog 91 #[.string a0] w fun e w' => e = .returned (.string r) ∧ Below w.heap.size w w' := by
 unfold fb.f at h
 by_cases hs : a0.size ≤ 70368744177664
 case neg => rw [if_neg hs] at h; exact absurd h cN
 rw [if_pos hs] at h; have HR := am_ (Option.some.inj h); clear h; have hlen := bR a0; have HL := am_ hlen; clear hlen; have kb := np (P := Tryz.prog) 9 22 5 Tryz.underlying9 Tryz.underlying22 Tryz.underlying5 a0 w; go_enter Tryz.func91, Tryz.ntmps91
 go_wp2; go_loopw [10] (fun i wr => ∃ k : Nat, k ≤ a0.size ∧ i = .int .i64 k ∧ aa (Buf8 wr w.heap.size (((ak a0).take k).map dv ++ (ak a0).drop k)) ∧ aa (Below w.heap.size w wr)) (fun i _ => a0.size - (intOf i).toNat)
 case atStart => exact ⟨0, Nat.zero_le _, rfl, ⟨pY w 5 a0⟩, ⟨jF (Below.refl _ _) (Nat.le_refl _) 5 a0⟩⟩
 case round =>
  obtain ⟨k, hk, rfl, HF, HB⟩ := hrel; clear kb; by_cases hlt : k < a0.size
  ·have hkl : k < (ak a0).length := by have := HL.out; omega
   have hbl : (((ak a0).take k).map dv ++ (ak a0).drop k).length = a0.size := by
    rw [List.length_append, gO _ _ u7_, List.length_drop]; have := HL.out; omega
   obtain ⟨hc0, hf0⟩ := HF.out k (by rw [hbl]; exact hlt); rw [qW _ k hkl] at hc0; have hrange := rP a0 (k : Int); rw [← lq, show rd (ak a0) (k : Int) = (ak a0)[k] by unfold rd; simp [List.getD_eq_getElem?_getD, List.getElem?_eq_getElem hkl]] at hrange; obtain ⟨h0, h1⟩ := hrange; clear hbl; obtain ⟨c, hc⟩ : ∃ c, (ak a0)[k] = c := ⟨_, rfl⟩; rw [hc] at hc0 h0 h1; have HC := am_ hc; clear hc; by_cases hu : 65 ≤ c ∧ c ≤ 90
   ·have hf := nU c; rw [decide_eq_true hu] at hf; have HU := am_ hf; clear hf; have HV : aa (dv (ak a0)[k] = c + 97 - 65) := ⟨by rw [HC.out]; unfold dv; rw [if_pos hu]; omega⟩; obtain ⟨hu0, hu1⟩ := hu; go_wp2_with (first | (go_at_call 132; (with_reducible refine (df.calls c true _ HU.out).mono ?_); rintro e w' ⟨rfl, ⟨nd, rfl⟩⟩))
    go_roundw
    case rel => exact ⟨k + 1, u7_, gx, ⟨by rw [← ri _ k hkl _ HV.out]; exact Buf8.drewN (Buf8.set HF.out k (c + 97 - 65)) _⟩, ⟨by first | exact aq (bj HB.out (Nat.le_refl _)) _ | exact bj (aq HB.out _) (Nat.le_refl _)⟩⟩
    case measure => simp [intOf]; omega
   ·have hf := nU c; rw [decide_eq_false hu] at hf; have HU := am_ hf; clear hf; have HV : aa (dv (ak a0)[k] = (ak a0)[k]) := ⟨by rw [HC.out]; unfold dv; rw [if_neg hu]⟩; clear hu; go_wp2_with (first | (go_at_call 132; (with_reducible refine (df.calls c false _ HU.out).mono ?_); rintro e w' ⟨rfl, ⟨nd, rfl⟩⟩))
    go_roundw
    case rel => exact ⟨k + 1, u7_, gx, ⟨by rw [← p8 _ k hkl HV.out]; exact Buf8.drewN HF.out _⟩, ⟨aq HB.out _⟩⟩
    case measure => simp [intOf]; omega
  ·obtain rfl : k = a0.size := by omega
   have hx := HF.out; rw [← HL.out, qY] at hx; have kr := run_convert_bytes_arg (P := Tryz.prog) wr 22 5 Tryz.underlying22 Tryz.underlying5 w.heap.size 0 a0.size (grownCap w a0.size 0 5) ((ak a0).map dv) (by rw [List.length_map, HL.out]) (fun i hi => by rw [Nat.zero_add]; exact (hx i (by rw [List.length_map, HL.out]; exact hi)).1) 9 Tryz.underlying9; clear hx HF hk hlt; go_wp2; go_ret
   exact ⟨congrArg (fun s => Ending.returned (Value.string s)) HR.out, by first | exact HB.out | exact aq HB.out _⟩
def b8.j0 : Nat → ByteArray → Int → Bool → Option (ByteArray)
 | 0, _, _, _ => none
 | k + 1, x0, x3, x28 => if x28 = true then (if 0 ≤ (wrap64 (x3 - 1)) then (if (wrap64 (x3 - 1)) ≤ (x0.size : Int) then ((al.f k cE (x0.extract 0 ((wrap64 (x3 - 1)) : Int).toNat)).bind fun t166 => (if t166 = true then (some (⟨#[]⟩ : ByteArray)) else (some (x0.extract 0 ((wrap64 (x3 - 1)) : Int).toNat)))) else (none)) else (none)) else ((al.f k cE x0).bind fun t167 => (if t167 = true then (some (⟨#[]⟩ : ByteArray)) else (some x0)))
def b8.f (k : Nat) (a0 : ByteArray) : Option (ByteArray) := (fb.f a0).bind fun t165 => (if 0 ≤ (mn (t165.size : Int) 12) then (if (mn (t165.size : Int) 12) ≤ (t165.size : Int) then (if ((t165.extract 0 ((mn (t165.size : Int) 12) : Int).toNat).size : Int) > 3 then (if 0 ≤ (wrap64 (((t165.extract 0 ((mn (t165.size : Int) 12) : Int).toNat).size : Int) - 1)) then (if (wrap64 (((t165.extract 0 ((mn (t165.size : Int) 12) : Int).toNat).size : Int) - 1)) < ((t165.extract 0 ((mn (t165.size : Int) 12) : Int).toNat).size : Int) then (if (bt (t165.extract 0 ((mn (t165.size : Int) 12) : Int).toNat) (wrap64 (((t165.extract 0 ((mn (t165.size : Int) 12) : Int).toNat).size : Int) - 1))) = 115 then (if 0 ≤ (wrap64 (((t165.extract 0 ((mn (t165.size : Int) 12) : Int).toNat).size : Int) - 2)) then (if (wrap64 (((t165.extract 0 ((mn (t165.size : Int) 12) : Int).toNat).size : Int) - 2)) < ((t165.extract 0 ((mn (t165.size : Int) 12) : Int).toNat).size : Int) then (b8.j0 k (t165.extract 0 ((mn (t165.size : Int) 12) : Int).toNat) ((t165.extract 0 ((mn (t165.size : Int) 12) : Int).toNat).size : Int) ((bt (t165.extract 0 ((mn (t165.size : Int) 12) : Int).toNat) (wrap64 (((t165.extract 0 ((mn (t165.size : Int) 12) : Int).toNat).size : Int) - 2))) != 115)) else (none)) else (none)) else (b8.j0 k (t165.extract 0 ((mn (t165.size : Int) 12) : Int).toNat) ((t165.extract 0 ((mn (t165.size : Int) 12) : Int).toNat).size : Int) false)) else (none)) else (none)) else (b8.j0 k (t165.extract 0 ((mn (t165.size : Int) 12) : Int).toNat) ((t165.extract 0 ((mn (t165.size : Int) 12) : Int).toNat).size : Int) false)) else (none)) else (none))
theorem b8.calls (k : Nat) (a0 : ByteArray) (r : ByteArray) (w : World) (hG : StopsIn w) (h : b8.f k a0 = some r) :
  Calls Tryz.prog 46 #[.string a0] w fun e w' => e = .returned (.string r) ∧ Below w.heap.size w w' := by
 have HG_ := am_ hG; clear hG; obtain ⟨AG_, cG_, hg1_, hg2_, hg3_⟩ := HG_.out.stops; have HG1_ := am_ hg1_; have HG2_ := am_ hg2_; have HG3_ := am_ hg3_; clear hg1_ hg2_ hg3_; have HB := am_ (Below.refl w.heap.size w); have H := h; clear h; unfold b8.f at H
 obtain ⟨t165, A2, H⟩ := bi_ H; obtain ⟨ji3, hji3⟩ : ∃ j_ : Int, (mn (t165.size : Int) 12) = j_ := ⟨_, rfl⟩; replace H : (if 0 ≤ (ji3) then (if (ji3) ≤ (t165.size : Int) then (if ((t165.extract 0 ((ji3) : Int).toNat).size : Int) > 3 then (if 0 ≤ (wrap64 (((t165.extract 0 ((ji3) : Int).toNat).size : Int) - 1)) then (if (wrap64 (((t165.extract 0 ((ji3) : Int).toNat).size : Int) - 1)) < ((t165.extract 0 ((ji3) : Int).toNat).size : Int) then (if (bt (t165.extract 0 ((ji3) : Int).toNat) (wrap64 (((t165.extract 0 ((ji3) : Int).toNat).size : Int) - 1))) = 115 then (if 0 ≤ (wrap64 (((t165.extract 0 ((ji3) : Int).toNat).size : Int) - 2)) then (if (wrap64 (((t165.extract 0 ((ji3) : Int).toNat).size : Int) - 2)) < ((t165.extract 0 ((ji3) : Int).toNat).size : Int) then (b8.j0 k (t165.extract 0 ((ji3) : Int).toNat) ((t165.extract 0 ((ji3) : Int).toNat).size : Int) ((bt (t165.extract 0 ((ji3) : Int).toNat) (wrap64 (((t165.extract 0 ((ji3) : Int).toNat).size : Int) - 2))) != 115)) else (none)) else (none)) else (b8.j0 k (t165.extract 0 ((ji3) : Int).toNat) ((t165.extract 0 ((ji3) : Int).toNat).size : Int) false)) else (none)) else (none)) else (b8.j0 k (t165.extract 0 ((ji3) : Int).toNat) ((t165.extract 0 ((ji3) : Int).toNat).size : Int) false)) else (none)) else (none)) = some r := by first | (rw [hji3] at H; exact H) | (simp only [hji3] at H ⊢; exact H)
 (try rw [hji3] at A2)
 (try (have hji3h : ji3 ≤ 12 := by (rw [← hji3]; unfold mn; (repeat' split) <;> omega)))
 (try (have hji3g : ji3 ≤ 64 := by omega))
 (try (have hji3l : 0 ≤ ji3 := by (rw [← hji3]; unfold mn; (repeat' split) <;> omega)))
 (try (have hji3m : 0 ≤ ji3 := by omega))
 have hji3_ : (if 12 < (t165.size : Int) then 12 else (t165.size : Int)) = ji3 := hji3; obtain ⟨c4b0, c4b1, H⟩ := ge_ H; obtain ⟨c5b0, c5b1, H⟩ := ge_ H; have HC6 := am_ H; clear H; go_enter Tryz.func46, Tryz.ntmps46
 go_upto_region 3 with (first | ((with_reducible refine gt_ 5 ?_); refine gB_ 5 Tryz.func91 (fb.calls a0 t165 _ A2.out) ?_; intro w7 hb; replace HB := bs_ HB hb; (try clear hb)))
 (try simp only [Act.put, List.setIfInBounds_toArray, List.set_cons_zero, List.set_cons_succ])
 obtain ⟨y_, hy_⟩ : ∃ y_ : ByteArray, t165.extract 0 ((ji3) : Int).toNat = y_ := ⟨_, rfl⟩; simp only [hy_] at HC6 ⊢; clear hy_; go_upto_region 4 with (fail)
 (try simp only [Act.put, List.setIfInBounds_toArray, List.set_cons_zero, List.set_cons_succ])
 go_cut [28] (fun v28 wc => ∃ (kq : Nat) (x28_5 : Bool), v28 = .bool x28_5 ∧ aa (b8.j0 kq y_ (y_.size : Int) x28_5 = some r) ∧ aa (kq ≤ k) ∧ aa (Below w.heap.size w wc))
 case first =>
  have H := HC6.out; clear HC6; by_cases c8 : (y_.size : Int) > 3
  ·rw [if_pos c8] at H; have c8b0 : decide (3 < (y_.size : Int)) = true := decide_eq_true c8; have c8b1 : decide (3 < y_.size) = true := decide_eq_true u7_; clear c8; (first | rw [c8b0] | (simp only [ao, au]; rw [c8b0]) | skip)
   obtain ⟨ji9, hji9⟩ : ∃ j_ : Int, (wrap64 ((y_.size : Int) - 1)) = j_ := ⟨_, rfl⟩; replace H : (if 0 ≤ (ji9) then (if (ji9) < (y_.size : Int) then (if (bt y_ (ji9)) = 115 then (if 0 ≤ (wrap64 ((y_.size : Int) - 2)) then (if (wrap64 ((y_.size : Int) - 2)) < (y_.size : Int) then (b8.j0 k y_ (y_.size : Int) ((bt y_ (wrap64 ((y_.size : Int) - 2))) != 115)) else (none)) else (none)) else (b8.j0 k y_ (y_.size : Int) false)) else (none)) else (none)) = some r := by first | (rw [hji9] at H; exact H) | (simp only [hji9] at H ⊢; exact H)
   have hji9w : (IntKind.i64.wrap ((y_.size : Int) - 1)) = ji9 := (ao _).trans hji9; obtain ⟨c10b0, H⟩ := gd_ H; obtain ⟨c11b0, H⟩ := gd_ H; have HC_ := am_ H; clear H; obtain ⟨p12, q12⟩ := pq_ (ji9) y_.size; have hx12 := d7 y_ (ji9); obtain ⟨p12, q12⟩ := tt_ p12 q12; have H := HC_.out; clear HC_; by_cases c13 : (bt y_ (ji9)) = 115
   ·rw [if_pos c13] at H; have c13b0 := cQ c13; have c13b1 := cO c13; clear c13; obtain ⟨ji14, hji14⟩ : ∃ j_ : Int, (wrap64 ((y_.size : Int) - 2)) = j_ := ⟨_, rfl⟩; replace H : (if 0 ≤ (ji14) then (if (ji14) < (y_.size : Int) then (b8.j0 k y_ (y_.size : Int) ((bt y_ (ji14)) != 115)) else (none)) else (none)) = some r := by first | (rw [hji14] at H; exact H) | (simp only [hji14] at H ⊢; exact H)
    have hji14w : (IntKind.i64.wrap ((y_.size : Int) - 2)) = ji14 := (ao _).trans hji14; obtain ⟨c15b0, H⟩ := gd_ H; obtain ⟨c16b0, H⟩ := gd_ H; have H' := am_ H; clear H; (first | rw [c13b0] | (simp only [ao, au]; rw [c13b0]) | skip)
    obtain ⟨p17, q17⟩ := pq_ (ji14) y_.size; have hx17 := d7 y_ (ji14); obtain ⟨p17, q17⟩ := tt_ p17 q17; go_wp2; go_meet
    case rel => exact ⟨_, (((bt y_ (ji14)) != 115)), (by first | rfl | (simp; done) | (simp only [← hji3, ← hji14] <;> (first | rfl | simp)) | (simp [*]; done)), H', ⟨j5⟩, ⟨bw_ HB⟩⟩
   ·rw [if_neg c13] at H; have c13b0 := cT c13; have c13b1 := cV c13; have H' := am_ H; clear H; (first | rw [c13b0] | (simp only [ao, au]; rw [c13b0]) | skip)
    go_wp2; go_meet
    case rel => exact ⟨_, (false), u1_, H', ⟨j5⟩, ⟨bw_ HB⟩⟩
  ·rw [if_neg c8] at H; have c8b0 : decide (3 < (y_.size : Int)) = false := decide_eq_false c8; have c8b1 : decide (3 < y_.size) = false := decide_eq_false u7_; clear c8; (first | rw [c8b0] | (simp only [ao, au]; rw [c8b0]) | skip)
   have H' := am_ H; clear H; go_wp2; go_meet
   case rel => exact ⟨_, (false), u1_, H', ⟨j5⟩, ⟨bw_ HB⟩⟩
 case rest =>
  clear HC6; try clear c4b0
  try clear c4b1
  try clear c5b0
  try clear c5b1
  obtain ⟨kq, x28_5, rfl, HA, HJ5, HB⟩ := hcut; cases kq with
  | zero => exact absurd HA.out (by simp [b8.j0])
  | succ kj5 =>
   have H := HA.out; clear HA; simp only [b8.j0] at H; cases x28_5
   ·replace H := hf_ H; obtain ⟨t167, A24, H⟩ := bi_ H; cases t167
    ·replace H := hf_ H; obtain rfl := si_ H; have hgx_ := (HB.out.cell (World.block_lt_of_cell? w _ HG1_.out)).trans HG1_.out; go_wp2_with (first | ((with_reducible refine ei (f := 92) rfl ?_); refine gG (some 35) rfl rfl Tryz.func92 b9 rfl #[.slice AG_ cE.length cG_, .string y_] rfl u47_ ?_; (refine (al.calls kj5 _ _ cE y_ false _ ?side1 ?side2 A24.out).mono ?_); (case side1 => exact u19_); (case side2 => exact HG2_.out); rintro e w' ⟨rfl, ⟨nd, rfl⟩⟩; refine ⟨_, rfl, ?_⟩))
     go_ret
     exact ⟨u42_, bw_ HB⟩
    ·replace H := ht_ H; obtain rfl := si_ H; have hgx_ := (HB.out.cell (World.block_lt_of_cell? w _ HG1_.out)).trans HG1_.out; go_wp2_with (first | ((with_reducible refine ei (f := 92) rfl ?_); refine gG (some 35) rfl rfl Tryz.func92 b9 rfl #[.slice AG_ cE.length cG_, .string y_] rfl u47_ ?_; (refine (al.calls kj5 _ _ cE y_ true _ ?side1 ?side2 A24.out).mono ?_); (case side1 => exact u19_); (case side2 => exact HG2_.out); rintro e w' ⟨rfl, ⟨nd, rfl⟩⟩; refine ⟨_, rfl, ?_⟩))
     go_ret
     exact ⟨u42_, bw_ HB⟩
   ·replace H := ht_ H; obtain ⟨ji19, hji19⟩ : ∃ j_ : Int, (wrap64 ((y_.size : Int) - 1)) = j_ := ⟨_, rfl⟩; replace H : (if 0 ≤ (ji19) then (if (ji19) ≤ (y_.size : Int) then ((al.f kj5 cE (y_.extract 0 ((ji19) : Int).toNat)).bind fun t166 => (if t166 = true then (some (⟨#[]⟩ : ByteArray)) else (some (y_.extract 0 ((ji19) : Int).toNat)))) else (none)) else (none)) = some r := by first | (rw [hji19] at H; exact H) | (simp only [hji19] at H ⊢; exact H)
    have hji19w : (IntKind.i64.wrap ((y_.size : Int) - 1)) = ji19 := (ao _).trans hji19; obtain ⟨c20b0, c20b1, H⟩ := ge_ H; obtain ⟨c21b0, c21b1, H⟩ := ge_ H; obtain ⟨t166, A22, H⟩ := bi_ H; cases t166
    ·replace H := hf_ H; obtain rfl := si_ H; have hgx_ := (HB.out.cell (World.block_lt_of_cell? w _ HG1_.out)).trans HG1_.out; go_wp2_with (first | ((with_reducible refine ei (f := 92) rfl ?_); refine gG (some 35) rfl rfl Tryz.func92 b9 rfl #[.slice AG_ cE.length cG_, .string (y_.extract 0 ((ji19) : Int).toNat)] rfl u45_ ?_; (refine (al.calls kj5 _ _ cE (y_.extract 0 ((ji19) : Int).toNat) false _ ?side1 ?side2 A22.out).mono ?_); (case side1 => exact u19_); (case side2 => exact HG2_.out); rintro e w' ⟨rfl, ⟨nd, rfl⟩⟩; refine ⟨_, rfl, ?_⟩))
     go_ret
     exact ⟨u39_, bw_ HB⟩
    ·replace H := ht_ H; obtain rfl := si_ H; have hgx_ := (HB.out.cell (World.block_lt_of_cell? w _ HG1_.out)).trans HG1_.out; go_wp2_with (first | ((with_reducible refine ei (f := 92) rfl ?_); refine gG (some 35) rfl rfl Tryz.func92 b9 rfl #[.slice AG_ cE.length cG_, .string (y_.extract 0 ((ji19) : Int).toNat)] rfl u45_ ?_; (refine (al.calls kj5 _ _ cE (y_.extract 0 ((ji19) : Int).toNat) true _ ?side1 ?side2 A22.out).mono ?_); (case side1 => exact u19_); (case side2 => exact HG2_.out); rintro e w' ⟨rfl, ⟨nd, rfl⟩⟩; refine ⟨_, rfl, ?_⟩))
     go_ret
     exact ⟨u39_, bw_ HB⟩
def dh.f (a0 : Int) : Option (Bool) := (df.f a0).bind fun t168 => (if t168 = true then (some true) else ((dg.f a0).bind fun t169 => (if t169 = true then (some true) else ((dD.f a0).bind fun t170 => (some t170)))))
theorem dh.calls (a0 : Int) (r : Bool) (w : World) (h : dh.f a0 = some r) :
  Calls Tryz.prog 90 #[.int .u8 a0] w fun e w' => e = .returned (.bool r) ∧ Drawn0 w w' := by
 have H := h; clear h; unfold dh.f at H
 obtain ⟨t168, A2, H⟩ := bi_ H; cases t168
 ·replace H := hf_ H; obtain ⟨t169, A4, H⟩ := bi_ H; cases t169
  ·replace H := hf_ H; obtain ⟨t170, A6, H⟩ := bi_ H; obtain rfl := si_ H; go_enter Tryz.func90, Tryz.ntmps90
   go_wp2_with (first | ((with_reducible refine gt_ 4 ?_); refine gD_ 4 Tryz.func132 (df.calls a0 false _ A2.out) ?_; intro nd) | (go_at_call 133; (with_reducible refine (dg.calls a0 false _ A4.out).mono ?_); rintro e w' ⟨rfl, ⟨nd, rfl⟩⟩) | (go_at_call 134; (with_reducible refine (dD.calls a0 t170 _ A6.out).mono ?_); rintro e w' ⟨rfl, ⟨nd, rfl⟩⟩))
   go_ret
   exact ⟨u4_, u3_⟩
  ·replace H := ht_ H; obtain rfl := si_ H; go_enter Tryz.func90, Tryz.ntmps90
   go_wp2_with (first | ((with_reducible refine gt_ 4 ?_); refine gD_ 4 Tryz.func132 (df.calls a0 false _ A2.out) ?_; intro nd) | (go_at_call 133; (with_reducible refine (dg.calls a0 true _ A4.out).mono ?_); rintro e w' ⟨rfl, ⟨nd, rfl⟩⟩))
   go_ret
   exact ⟨u4_, u3_⟩
 ·replace H := ht_ H; obtain rfl := si_ H; go_enter Tryz.func90, Tryz.ntmps90
  go_wp2_with (first | ((with_reducible refine gt_ 4 ?_); refine gD_ 4 Tryz.func132 (df.calls a0 true _ A2.out) ?_; intro nd))
  go_ret
  exact ⟨u4_, u3_⟩
mutual
def bd.l0 : Nat → ByteArray → List (S90) → Int → Option ((List (S90)))
 | 0, _, _, _ => none
 | k + 1, x0, x3, x4 => if x4 < (x0.size : Int) then (bd.l1 k x0 x3 x4 x4) else (some x3)
def bd.l1 : Nat → ByteArray → List (S90) → Int → Int → Option ((List (S90)))
 | 0, _, _, _, _ => none
 | k + 1, x0, x3, x4, x5 => if x4 < (x0.size : Int) then (if 0 ≤ x4 then ((dh.f (bt x0 x4)).bind fun t174 => (if t174 = true then (bd.l1 k x0 x3 (wrap64 (x4 + 1)) x5) else (if x4 > x5 then (if 0 ≤ x5 then (if x5 ≤ x4 then (if x4 ≤ (x0.size : Int) then (if x3.length < 4398046511104 then (bd.l0 k x0 (x3 ++ [(⟨x0.extract (x5 : Int).toNat (x4 : Int).toNat, x5, x4⟩ : S90)]) (wrap64 (x4 + 1))) else (none)) else (none)) else (none)) else (none)) else (bd.l0 k x0 x3 (wrap64 (x4 + 1)))))) else (none)) else (if x4 > x5 then (if 0 ≤ x5 then (if x5 ≤ x4 then (if x4 ≤ (x0.size : Int) then (if x3.length < 4398046511104 then (bd.l0 k x0 (x3 ++ [(⟨x0.extract (x5 : Int).toNat (x4 : Int).toNat, x5, x4⟩ : S90)]) (wrap64 (x4 + 1))) else (none)) else (none)) else (none)) else (none)) else (bd.l0 k x0 x3 (wrap64 (x4 + 1))))
end
def bd.f (k : Nat) (a0 : ByteArray) : Option ((List (S90))) := bd.l0 k a0 (([] : List (S90))) 0
theorem bd.calls (k : Nat) (a0 : ByteArray) (r : List (S90)) (w : World) (h : bd.f k a0 = some r) :
  Calls Tryz.prog 56 #[.string a0] w fun e w' => ∃ v0_ : Value, e = .returned (v0_) ∧ Kd.R k90 90 w' w.heap.size (fun _ => True) v0_ r ∧ Below w.heap.size w w' := by
 have hu90 := Tryz.underlying90; have HB := am_ (Below.refl w.heap.size w); have H := h; clear h; unfold bd.f at H
 obtain ⟨y171, hy171⟩ : ∃ y_ : List (S90), y_ = (([] : List (S90))) := ⟨_, rfl⟩; replace H : (bd.l0 k a0 y171 0) = some r := by first | (rw [hy171]; with_reducible exact H) | (have H2_ := (Option.bind_some _ _).symm.trans H; rw [hy171]; with_reducible exact H2_) | (have H2_ := (Option.bind_some _ _).symm.trans H; with_reducible exact H2_) | with_reducible exact H | (rw [hy171]; exact H) | exact H
 have Ny171 := am_ hy171; clear hy171; have H' := am_ H; clear H; go_enter Tryz.func56, Tryz.ntmps56
 go_wp2_with (first | ((with_reducible refine az (N := 6) rfl ?_); refine Kd.R_lit k90 _ 90 ?hg (N := 6) ?hd (xs := ([] : List (S90))) (inner := []) (ok := fun _ => True) (okp := fun _ => True) ?hr ?hp (fun _ hk => hk) trivial (Below.refl _ _) (Nat.le_refl _) cN ?_; (case hd => rfl); (case hg => rfl); (case hr => exact u6_); (case hp => exact gt); intro v172 w2 ho3 hb hg_ hnew_; clear hg_ hnew_; (first | rw [← Ny171.out] at ho3 | (simp only [Int.reduceToNat] at ho3; rw [← Ny171.out] at ho3)); have HO173 := am_ (Kd.R_lower ho3 (av (bw_ HB))); replace HB := bs_ HB hb; clear hb ho3))
 go_loopg [3, 4] k (fun kq v3 v4 w' => ∃ (x3_1 : List (S90)) (x4_1 : Int), v4 = .int .i64 x4_1 ∧ aa (bd.l0 kq a0 x3_1 x4_1 = some r) ∧ aa (kq ≤ k) ∧ aa (Kd.R k90 90 w' w.heap.size (fun _ => True) v3 x3_1) ∧ aa (Below w.heap.size w w'))
 case atStart => exact ⟨(y171), (0), u1_, H', ⟨Nat.le_refl _⟩, ⟨aR_ HO173.out⟩, ⟨bw_ HB⟩⟩
 case round =>
  clear H'; obtain ⟨x3_1, x4_1, rfl, HA, HK1, HO_3, HB⟩ := hrel; cases gk with
  | zero => exact absurd HA.out (by simp [bd.l0])
  | succ k1 =>
   have H := HA.out; clear HA; simp only [bd.l0] at H; by_cases c4 : x4_1 < (a0.size : Int)
   ·rw [if_pos c4] at H; have c4b0 := decide_eq_true c4; clear c4; have H' := am_ H; clear H; go_wp2; go_loopg [4] k1 (fun kq v4 w' => ∃ (x4_2 : Int), v4 = .int .i64 x4_2 ∧ aa (bd.l1 kq a0 x3_1 x4_2 x4_1 = some r) ∧ aa (kq ≤ k1) ∧ aa (Kd.R k90 90 w' w.heap.size (fun _ => True) u3 x3_1) ∧ aa (Below w.heap.size w w'))
    case atStart => exact ⟨(x4_1), u1_, H', ⟨Nat.le_refl _⟩, ⟨aR_ HO_3.out⟩, ⟨bw_ HB⟩⟩
    case round =>
     clear H'; try clear c4
     try clear c4b0
     obtain ⟨x4_2, rfl, HA, HK2, HO_3, HB⟩ := hrel; cases gk with
     | zero => exact absurd HA.out (by simp [bd.l1])
     | succ k2 =>
      have H := HA.out; clear HA; simp only [bd.l1] at H; by_cases c5 : x4_2 < (a0.size : Int)
      ·rw [if_pos c5] at H; have c5b0 := decide_eq_true c5; clear c5; obtain ⟨c6b0, H⟩ := gd_ H; obtain ⟨t174, A8, H⟩ := bi_ H; have HC_ := am_ H; clear H; obtain ⟨p7, q7⟩ := pq_ x4_2 a0.size; have hx7 := d7 a0 x4_2; obtain ⟨p7, q7⟩ := tt_ p7 q7; have H := HC_.out; clear HC_; cases t174
       ·replace H := hf_ H; have HC_ := am_ H; clear H; have H := HC_.out; clear HC_; by_cases c10 : x4_2 > x4_1
        ·rw [if_pos c10] at H; have c10b0 : decide (x4_1 < x4_2) = true := decide_eq_true c10; clear c10; obtain ⟨c11b0, c11b1, H⟩ := ge_ H; obtain ⟨c12b0, c12b1, H⟩ := ge_ H; obtain ⟨c13b0, c13b1, H⟩ := ge_ H; obtain ⟨LMc14, H⟩ := gl_ H; generalize hy175 : ((x3_1 ++ [(⟨a0.extract (x4_1 : Int).toNat (x4_2 : Int).toNat, x4_1, x4_2⟩ : S90)]) : List (S90)) = y175 at H; have Ny175 := am_ hy175.symm; clear hy175; have H' := am_ H; clear H; (first | rw [c10b0] | (simp only [ao, au]; rw [c10b0]) | skip)
         go_wp2_with (first | (go_at_call 90; (with_reducible refine (dh.calls (bt a0 x4_2) false _ A8.out).mono ?_); rintro e w' ⟨rfl, ⟨nd, rfl⟩⟩) | ((with_reducible refine bM (b := .append) (xs := #[.tmp 29, .tmp 37]) rfl ?_); at_builtin; refine Kd.R_append k90 (w0 := w) w.heap.size rfl (.tmp 29) (.tmp 37) 87 90 (.agg #[(.string ⟨#[]⟩), (.int .i64 0), (.int .i64 0)]) 32 rfl Tryz.underlying87 mW rfl bs u7_ u3 x3_1 (⟨a0.extract (x4_1 : Int).toNat (x4_2 : Int).toNat, x4_1, x4_2⟩ : S90) [.string (a0.extract (x4_1 : Int).toNat (x4_2 : Int).toNat), .int .i64 x4_1, .int .i64 x4_2] (fun _ => True) (fun _ => False) rfl rfl ?aP (fun _ hk => hk.elim) ?aF ?aO ?aB ?aS ?aL ?_; (case aP => exact kg _ _ _ (⟨a0.extract (x4_1 : Int).toNat (x4_2 : Int).toNat, x4_1, x4_2⟩ : S90)); (case aB => exact fG); (case aF => exact j4); (case aO => exact om); (case aS => exact fH); (case aL => have := LMc14.out; omega); intro v176 w15 ho hb hg hat; rw [← Ny175.out] at ho; replace HB := am_ (hb); have HO177 := am_ (ho); clear HO_3 ho hb hg hat))
         go_roundg k2
         case measure => have := HK1.out; have := HK2.out; omega
         case rel => exact ⟨(y175), (wrap64 (x4_2 + 1)), u1_, H', ⟨lz⟩, ⟨aR_ HO177.out⟩, ⟨bw_ HB⟩⟩
        ·rw [if_neg c10] at H; have c10b0 : decide (x4_1 < x4_2) = false := decide_eq_false c10; clear c10; have H' := am_ H; clear H; (first | rw [c10b0] | (simp only [ao, au]; rw [c10b0]) | skip)
         go_wp2_with (first | (go_at_call 90; (with_reducible refine (dh.calls (bt a0 x4_2) false _ A8.out).mono ?_); rintro e w' ⟨rfl, ⟨nd, rfl⟩⟩))
         go_roundg k2
         case measure => have := HK1.out; have := HK2.out; omega
         case rel => exact ⟨(x3_1), (wrap64 (x4_2 + 1)), u1_, H', ⟨lz⟩, ⟨aR_ HO_3.out⟩, ⟨bw_ HB⟩⟩
       ·replace H := ht_ H; have H' := am_ H; clear H; go_wp2_with (first | (go_at_call 90; (with_reducible refine (dh.calls (bt a0 x4_2) true _ A8.out).mono ?_); rintro e w' ⟨rfl, ⟨nd, rfl⟩⟩))
        go_roundg k2
        case measure => have := HK1.out; have := HK2.out; omega
        case rel => exact ⟨(wrap64 (x4_2 + 1)), u1_, H', ⟨lz⟩, ⟨aR_ HO_3.out⟩, ⟨bw_ HB⟩⟩
      ·rw [if_neg c5] at H; have c5b0 := decide_eq_false c5; clear c5; by_cases c16 : x4_2 > x4_1
       ·rw [if_pos c16] at H; have c16b0 : decide (x4_1 < x4_2) = true := decide_eq_true c16; clear c16; obtain ⟨c17b0, c17b1, H⟩ := ge_ H; obtain ⟨c18b0, c18b1, H⟩ := ge_ H; obtain ⟨c19b0, c19b1, H⟩ := ge_ H; obtain ⟨LMc20, H⟩ := gl_ H; generalize hy178 : ((x3_1 ++ [(⟨a0.extract (x4_1 : Int).toNat (x4_2 : Int).toNat, x4_1, x4_2⟩ : S90)]) : List (S90)) = y178 at H; have Ny178 := am_ hy178.symm; clear hy178; have H' := am_ H; clear H; go_wp2_with (first | ((with_reducible refine bM (b := .append) (xs := #[.tmp 29, .tmp 37]) rfl ?_); at_builtin; refine Kd.R_append k90 (w0 := w) w.heap.size rfl (.tmp 29) (.tmp 37) 87 90 (.agg #[(.string ⟨#[]⟩), (.int .i64 0), (.int .i64 0)]) 32 rfl Tryz.underlying87 mW rfl bs u7_ u3 x3_1 (⟨a0.extract (x4_1 : Int).toNat (x4_2 : Int).toNat, x4_1, x4_2⟩ : S90) [.string (a0.extract (x4_1 : Int).toNat (x4_2 : Int).toNat), .int .i64 x4_1, .int .i64 x4_2] (fun _ => True) (fun _ => False) rfl rfl ?aP (fun _ hk => hk.elim) ?aF ?aO ?aB ?aS ?aL ?_; (case aP => exact kg _ _ _ (⟨a0.extract (x4_1 : Int).toNat (x4_2 : Int).toNat, x4_1, x4_2⟩ : S90)); (case aB => exact fG); (case aF => exact j4); (case aO => exact om); (case aS => exact fH); (case aL => have := LMc20.out; omega); intro v179 w21 ho hb hg hat; rw [← Ny178.out] at ho; replace HB := am_ (hb); have HO180 := am_ (ho); clear HO_3 ho hb hg hat))
        go_roundg k2
        case measure => have := HK1.out; have := HK2.out; omega
        case rel => exact ⟨(y178), (wrap64 (x4_2 + 1)), u1_, H', ⟨lz⟩, ⟨aR_ HO180.out⟩, ⟨bw_ HB⟩⟩
       ·rw [if_neg c16] at H; have c16b0 : decide (x4_1 < x4_2) = false := decide_eq_false c16; clear c16; have H' := am_ H; clear H; go_wp2; go_roundg k2
        case measure => have := HK1.out; have := HK2.out; omega
        case rel => exact ⟨(x3_1), (wrap64 (x4_2 + 1)), u1_, H', ⟨lz⟩, ⟨aR_ HO_3.out⟩, ⟨bw_ HB⟩⟩
   ·rw [if_neg c4] at H; have c4b0 := decide_eq_false c4; clear c4; obtain rfl := si_ H; go_wp2; go_ret
    exact ⟨_, u0_, aR_ HO_3.out, bw_ HB⟩
def cz.l0 : Nat → List ByteArray → List (S90) → Int → Int → Option (List ByteArray)
 | 0, _, _, _, _ => none
 | k + 1, x3, x8, x9, x10 => if x10 < x9 then (if 0 ≤ x10 then (if x10 < (x8.length : Int) then ((b8.f k ((eP x8 x10).f0)).bind fun t189 => (if x3.length < 8796093022208 then (cz.l0 k (x3 ++ [t189]) x8 x9 (wrap64 (x10 + 1))) else (none))) else (none)) else (none)) else (some x3)
def cz.f (k : Nat) (a0 : ByteArray) : Option (List ByteArray) := (bd.f k a0).bind fun t184 => (cz.l0 k (([] : List ByteArray)) t184 (t184.length : Int) 0)
theorem cz.calls (k : Nat) (a0 : ByteArray) (r : List ByteArray) (w : World) (hG : StopsIn w) (h : cz.f k a0 = some r) :
  Calls Tryz.prog 20 #[.string a0] w fun e w' => ∃ v0_ : Value, e = .returned (v0_) ∧ Kd.R Kd.string 9 w' w.heap.size (fun _ => True) v0_ r ∧ Below w.heap.size w w' := by
 have hu90 := Tryz.underlying90; have HG_ := am_ hG; clear hG; have HB := am_ (Below.refl w.heap.size w); have H := h; clear h; unfold cz.f at H
 obtain ⟨y181, hy181⟩ : ∃ y_ : List ByteArray, y_ = (([] : List ByteArray)) := ⟨_, rfl⟩; replace H : ((bd.f k a0).bind fun t184 => (cz.l0 k y181 t184 (t184.length : Int) 0)) = some r := by first | (rw [hy181]; with_reducible exact H) | (have H2_ := (Option.bind_some _ _).symm.trans H; rw [hy181]; with_reducible exact H2_) | (have H2_ := (Option.bind_some _ _).symm.trans H; with_reducible exact H2_) | with_reducible exact H | (rw [hy181]; exact H) | exact H
 have Ny181 := am_ hy181; clear hy181; obtain ⟨t184, A2, H⟩ := bi_ H; have H' := am_ H; clear H; go_enter Tryz.func20, Tryz.ntmps20
 go_wp2_with (first | ((with_reducible refine az (N := 6) rfl ?_); refine Kd.R_lit Kd.string _ 9 ?hg (N := 6) ?hd (xs := ([] : List ByteArray)) (inner := []) (ok := fun _ => True) (okp := fun _ => True) ?hr ?hp (fun _ hk => hk) trivial (Below.refl _ _) (Nat.le_refl _) cN ?_; (case hd => rfl); (case hg => rfl); (case hr => exact u6_); (case hp => exact gt); intro v182 w3 ho4 hb hg_ hnew_; clear hg_ hnew_; (first | rw [← Ny181.out] at ho4 | (simp only [Int.reduceToNat] at ho4; rw [← Ny181.out] at ho4)); have HO183 := am_ (Kd.R_lower ho4 (av (bw_ HB))); replace HB := bs_ HB hb; clear hb ho4) | ((with_reducible refine gt_ 8 ?_); refine gf_ 8 Tryz.func56 (bd.calls k a0 t184 _ A2.out) ?_; rintro e w5 ⟨v185, rfl, ho0, hb⟩; refine ⟨_, rfl, ?_⟩; replace HO183 := am_ (Kd.R_below (aR_ HO183.out) hb); have HO186 := am_ (Kd.R_lower ho0 (av (bw_ HB))); replace HB := bs_ HB hb; (try clear hb); (try clear ho0); obtain ⟨Ao6, co6, eo6⟩ := Kd.R_slice HO186.out; subst eo6))
 go_loopg [3, 10] k (fun kq v3 v10 w' => ∃ (x3_1 : List ByteArray) (x10_1 : Int), v10 = .int .i64 x10_1 ∧ aa (cz.l0 kq x3_1 t184 (t184.length : Int) x10_1 = some r) ∧ aa (kq ≤ k) ∧ aa (Kd.R Kd.string 9 w' w.heap.size (fun _ => True) v3 x3_1) ∧ aa (Kd.R k90 90 w' w.heap.size (fun _ => True) (.slice Ao6 t184.length co6) t184) ∧ aa (Below w.heap.size w w'))
 case atStart => exact ⟨(y181), (0), u1_, H', ⟨Nat.le_refl _⟩, ⟨aR_ HO183.out⟩, ⟨aR_ HO186.out⟩, ⟨bw_ HB⟩⟩
 case round =>
  clear H'; obtain ⟨x3_1, x10_1, rfl, HA, HK1, HO_3, HO_8, HB⟩ := hrel; cases gk with
  | zero => exact absurd HA.out (by simp [cz.l0])
  | succ k1 =>
   have H := HA.out; clear HA; simp only [cz.l0] at H; by_cases c7 : x10_1 < (t184.length : Int)
   ·rw [if_pos c7] at H; have c7b0 := decide_eq_true c7; clear c7; obtain ⟨c8b0, H⟩ := gd_ H; obtain ⟨c9b0, H⟩ := gd_ H; obtain ⟨t189, A10, H⟩ := bi_ H; obtain ⟨LMc11, H⟩ := gl_ H; generalize hy190 : ((x3_1 ++ [t189]) : List ByteArray) = y190 at H; have Ny190 := am_ hy190.symm; clear hy190; have H' := am_ H; clear H; obtain ⟨ad187, e187, hx187_0, hx187_1, hx187_2⟩ := rk (Kd.R_reads' HO_8.out).2.2 x10_1 od_ od_; cases e187; obtain ⟨p187, q187⟩ := pt_ x10_1 t184.length; go_wp2_with (first | ((with_reducible refine gt_ 5 ?_); refine bx_ 5 #[.string (⟨#[]⟩ : ByteArray), .int .i64 0, .int .i64 0] 90 ?_; intro gb188 hg w12 hbox hb; replace HO_3 := am_ (Kd.R_below (aR_ HO_3.out) hb); replace HO_8 := am_ (Kd.R_below (Kd.R_elderB (aR_ HO_8.out) gb188 (Nat.le_of_eq hg.symm)) hb); have BK188 := am_ (hbox); have GE188 := gw_ HB hg; replace HB := bs_ HB hb; clear hb hbox hg; obtain ⟨hcz13_0, hcz13_1, hcz13_2, hfz13_0, hfz13_1, hfz13_2⟩ := bO BK188.out) | ((with_reducible refine gt_ 17 ?_); refine gB_ 17 Tryz.func46 (b8.calls k1 ((eP t184 x10_1).f0) t189 _ ?side1 A10.out) ?_; (case side1 => exact kF); intro w14 hb; replace HO_3 := am_ (Kd.R_below (aR_ (Kd.R_mono (Kd.R_far (p := ⟨gb188, 2, none⟩) (Kd.R_far (p := ⟨gb188, 1, none⟩) (Kd.R_far (p := ⟨gb188, 0, none⟩) (Kd.R_types HO_3.out BK188.out bs) (fun _ hk => hk.2) (.string ((eP t184 x10_1).f0))) (fun _ hk => hk.2) (.int .i64 ((eP t184 x10_1).f1))) (fun _ hk => hk.2) (.int .i64 ((eP t184 x10_1).f2))) (fun _ h_ => h_.1))) hb); replace HO_8 := am_ (Kd.R_below (aR_ (Kd.R_mono (Kd.R_far (p := ⟨gb188, 2, none⟩) (Kd.R_far (p := ⟨gb188, 1, none⟩) (Kd.R_far (p := ⟨gb188, 0, none⟩) (Kd.R_mono HO_8.out (fun k_ hk => (⟨hk, hk.2⟩ : _ ∧ k_ ≠ gb188))) (fun _ hk => hk.2) (.string ((eP t184 x10_1).f0))) (fun _ hk => hk.2) (.int .i64 ((eP t184 x10_1).f1))) (fun _ hk => hk.2) (.int .i64 ((eP t184 x10_1).f2))) (fun _ h_ => h_.1))) hb); replace HB := bs_ HB hb; (try clear hb)) | ((with_reducible refine bM (b := .append) (xs := #[.tmp 14, .tmp 18]) rfl ?_); at_builtin; refine Kd.R_append Kd.string (w0 := w) w.heap.size rfl (.tmp 14) (.tmp 18) 30 9 (.string ⟨#[]⟩) 16 rfl Tryz.underlying30 eD rfl bs u7_ u3 x3_1 t189 [.string t189] (fun _ => True) (fun _ => False) rfl rfl ?aP (fun _ hk => hk.elim) ?aF ?aO ?aB ?aS ?aL ?_; (case aP => exact rfl); (case aB => exact fG); (case aF => exact j4); (case aO => exact om); (case aS => exact fH); (case aL => have := LMc11.out; omega); intro v191 w15 ho hb hg hat; rw [← Ny190.out] at ho; replace HO_8 := am_ (Kd.R_over' (aR_ HO_8.out) (Kd.R_typed (aR_ HO_3.out)) bs hg); replace HB := am_ (hb); have HO192 := am_ (ho); clear HO_3 ho hb hg hat))
    go_roundg k1
    case measure => have := HK1.out; omega
    case rel => exact ⟨(y190), (wrap64 (x10_1 + 1)), u1_, H', ⟨dc⟩, ⟨aR_ HO192.out⟩, ⟨by (with_reducible repeat (first | apply Kd.R_alloc | apply Kd.R_drewN | apply Kd.R_drew)); exact Kd.R_mono HO_8.out (fun _ hk => trivial)⟩, ⟨bw_ HB⟩⟩
   ·rw [if_neg c7] at H; have c7b0 := decide_eq_false c7; clear c7; obtain rfl := si_ H; go_wp2; go_ret
    exact ⟨_, u0_, aR_ HO_3.out, bw_ HB⟩
def bB.l0 : Nat → List (S76) → ByteArray → ByteArray → Int → Option (Int × Bool)
 | 0, _, _, _, _ => none
 | k + 1, x0, x1, x2, x8 => if x8 < (x0.length : Int) then (if 0 ≤ x8 then (if (Op.bytesLess (((aj x0 x8).f0).toList) x1.toList) = true then (bB.l0 k x0 x1 x2 (wrap64 (x8 + 1))) else (if ((aj x0 x8).f0).toList = x1.toList then (if (Op.bytesLess (((aj x0 x8).f1).toList) x2.toList) = true then (bB.l0 k x0 x1 x2 (wrap64 (x8 + 1))) else (some (x8, (((aj x0 x8).f1).toList == x2.toList)))) else (some (x8, false)))) else (none)) else (some (x8, false))
def bB.f (k : Nat) (l0 : List (S76)) (a1 : ByteArray) (a2 : ByteArray) : Option (Int × Bool) := bB.l0 k l0 a1 a2 0
theorem bB.calls (k : Nat) (A0 : Option Addr) (c0 : Nat) (l0 : List (S76)) (a1 : ByteArray) (a2 : ByteArray) (r1 : Int) (r2 : Bool) (w : World) (hr0 : Kd.C k76 w A0 l0.length l0) (hc0 : l0.length ≤ c0) (h : bB.f k l0 a1 a2 = some (r1, r2)) :
  Calls Tryz.prog 95 #[.slice A0 l0.length c0, .string a1, .string a2] w fun e w' => e = .returned (.tuple #[.int .i64 r1, .bool r2]) ∧ Drawn0 w w' := by
 have HR0 := am_ hr0; have HC0 := am_ hc0; clear hr0 hc0; have H := h; clear h; unfold bB.f at H
 have H' := am_ H; clear H; go_enter Tryz.func95, Tryz.ntmps95
 go_wp2; repeat (go_quiet (fail); try go_wp2)
 go_loopg [8] k (fun kq v8 w' => ∃ (x8_1 : Int), v8 = .int .i64 x8_1 ∧ aa (bB.l0 kq l0 a1 a2 x8_1 = some (r1, r2)) ∧ aa (kq ≤ k) ∧ Drawn0 w w')
 case atStart => exact ⟨(0), u1_, H', ⟨Nat.le_refl _⟩, u3_⟩
 case round =>
  clear H'; obtain ⟨x8_1, rfl, HA, HK1, ⟨m1, rfl⟩⟩ := hrel; cases gk with
  | zero => exact absurd HA.out (by simp [bB.l0])
  | succ k1 =>
   have H := HA.out; clear HA; simp only [bB.l0] at H; by_cases c4 : x8_1 < (l0.length : Int)
   ·rw [if_pos c4] at H; have c4b0 := decide_eq_true c4; clear c4; obtain ⟨c5b0, H⟩ := gd_ H; have HC_ := am_ H; clear H; obtain ⟨ad193, A193_2, c193_2, e193, hx193_0, hx193_1, hx193_2, hl193_2, hi193_2⟩ := em HR0.out x8_1 od_ od_; cases e193; have HR193_2 := am_ hi193_2; have HC193_2 := am_ hl193_2; clear hi193_2 hl193_2; obtain ⟨p193, q193⟩ := pt_ x8_1 l0.length; have H := HC_.out; clear HC_; by_cases c6 : (Op.bytesLess (((aj l0 x8_1).f0).toList) a1.toList) = true
    ·rw [if_pos c6] at H; have c6b0 : (Op.bytesLess (((aj l0 x8_1).f0).toList) a1.toList) = true := c6; clear c6; have H' := am_ H; clear H; (first | rw [c6b0] | (simp only [ao, au]; rw [c6b0]) | skip)
     go_wp2; repeat (go_quiet (fail); try go_wp2)
     go_roundg k1
     case measure => have := HK1.out; omega
     case rel => exact ⟨(wrap64 (x8_1 + 1)), u1_, H', ⟨dc⟩, u3_⟩
    ·rw [if_neg c6] at H; have c6b0 : (Op.bytesLess (((aj l0 x8_1).f0).toList) a1.toList) = false := by simpa using c6
     clear c6; have HC_ := am_ H; clear H; (first | rw [c6b0] | (simp only [ao, au]; rw [c6b0]) | skip)
     obtain ⟨ad194, A194_2, c194_2, e194, hx194_0, hx194_1, hx194_2, hl194_2, hi194_2⟩ := em HR0.out x8_1 od_ od_; obtain rfl : ad193 = ad194 := (by injection e194); have HR194_2 := am_ hi194_2; have HC194_2 := am_ hl194_2; clear hi194_2 hl194_2; obtain ⟨p194, q194⟩ := pt_ x8_1 l0.length; have ea_ := Option.some.inj (hx193_2.symm.trans hx194_2); injection ea_ with ea_ en_ ec_
     subst ea_; subst ec_; clear en_; have H := HC_.out; clear HC_; by_cases c7 : ((aj l0 x8_1).f0).toList = a1.toList
     ·rw [if_pos c7] at H; have c7b0 := cQ c7; have c7b1 := cO c7; clear c7; have HC_ := am_ H; clear H; (first | rw [c7b0] | (simp only [ao, au]; rw [c7b0]) | skip)
      obtain ⟨ad195, A195_2, c195_2, e195, hx195_0, hx195_1, hx195_2, hl195_2, hi195_2⟩ := em HR0.out x8_1 od_ od_; obtain rfl : ad193 = ad195 := (by injection e195); have HR195_2 := am_ hi195_2; have HC195_2 := am_ hl195_2; clear hi195_2 hl195_2; obtain ⟨p195, q195⟩ := pt_ x8_1 l0.length; have ea_ := Option.some.inj (hx193_2.symm.trans hx195_2); injection ea_ with ea_ en_ ec_
      subst ea_; subst ec_; clear en_; have H := HC_.out; clear HC_; by_cases c8 : (Op.bytesLess (((aj l0 x8_1).f1).toList) a2.toList) = true
      ·rw [if_pos c8] at H; have c8b0 : (Op.bytesLess (((aj l0 x8_1).f1).toList) a2.toList) = true := c8; clear c8; have H' := am_ H; clear H; (first | rw [c8b0] | (simp only [ao, au]; rw [c8b0]) | skip)
       go_wp2; repeat (go_quiet (fail); try go_wp2)
       go_roundg k1
       case measure => have := HK1.out; omega
       case rel => exact ⟨(wrap64 (x8_1 + 1)), u1_, H', ⟨dc⟩, u3_⟩
      ·rw [if_neg c8] at H; have c8b0 : (Op.bytesLess (((aj l0 x8_1).f1).toList) a2.toList) = false := by simpa using c8
       clear c8; simp only [Option.some.injEq, Prod.mk.injEq] at H; obtain ⟨rfl, rfl⟩ := H; (first | rw [c8b0] | (simp only [ao, au]; rw [c8b0]) | skip)
       obtain ⟨ad196, A196_2, c196_2, e196, hx196_0, hx196_1, hx196_2, hl196_2, hi196_2⟩ := em HR0.out x8_1 od_ od_; obtain rfl : ad193 = ad196 := (by injection e196); have HR196_2 := am_ hi196_2; have HC196_2 := am_ hl196_2; clear hi196_2 hl196_2; obtain ⟨p196, q196⟩ := pt_ x8_1 l0.length; have ea_ := Option.some.inj (hx193_2.symm.trans hx196_2); injection ea_ with ea_ en_ ec_
       subst ea_; subst ec_; clear en_; obtain ⟨ad197, A197_2, c197_2, e197, hx197_0, hx197_1, hx197_2, hl197_2, hi197_2⟩ := em HR0.out x8_1 od_ od_; obtain rfl : ad193 = ad197 := (by injection e197); have HR197_2 := am_ hi197_2; have HC197_2 := am_ hl197_2; clear hi197_2 hl197_2; obtain ⟨p197, q197⟩ := pt_ x8_1 l0.length; have ea_ := Option.some.inj (hx193_2.symm.trans hx197_2); injection ea_ with ea_ en_ ec_
       subst ea_; subst ec_; clear en_; go_wp2; repeat (go_quiet (fail); try go_wp2)
       go_ret2
       exact ⟨u4_, u3_⟩
     ·rw [if_neg c7] at H; have c7b0 := cT c7; have c7b1 := cV c7; simp only [Option.some.injEq, Prod.mk.injEq] at H; obtain ⟨rfl, rfl⟩ := H; (first | rw [c7b0] | (simp only [ao, au]; rw [c7b0]) | skip)
      obtain ⟨ad198, A198_2, c198_2, e198, hx198_0, hx198_1, hx198_2, hl198_2, hi198_2⟩ := em HR0.out x8_1 od_ od_; obtain rfl : ad193 = ad198 := (by injection e198); have HR198_2 := am_ hi198_2; have HC198_2 := am_ hl198_2; clear hi198_2 hl198_2; obtain ⟨p198, q198⟩ := pt_ x8_1 l0.length; have ea_ := Option.some.inj (hx193_2.symm.trans hx198_2); injection ea_ with ea_ en_ ec_
      subst ea_; subst ec_; clear en_; go_wp2; repeat (go_quiet (fail); try go_wp2)
      go_ret2
      exact ⟨u4_, u3_⟩
   ·rw [if_neg c4] at H; have c4b0 := decide_eq_false c4; clear c4; simp only [Option.some.injEq, Prod.mk.injEq] at H; obtain ⟨rfl, rfl⟩ := H; go_wp2; repeat (go_quiet (fail); try go_wp2)
    go_ret2
    exact ⟨u4_, u3_⟩
def a8.l0 : Nat → List (S92) → ByteArray → Int → Option (Int)
 | 0, _, _, _ => none
 | k + 1, x0, x1, x5 => if x5 < (x0.length : Int) then (if 0 ≤ x5 then (if ((an x0 x5).f0).toList = x1.toList then (some x5) else (a8.l0 k x0 x1 (wrap64 (x5 + 1)))) else (none)) else (some (-1))
def a8.f (k : Nat) (l0 : List (S92)) (a1 : ByteArray) : Option (Int) := a8.l0 k l0 a1 0
theorem a8.calls (k : Nat) (A0 : Option Addr) (c0 : Nat) (l0 : List (S92)) (a1 : ByteArray) (r : Int) (w : World) (hr0 : Kd.C k92 w A0 l0.length l0) (hc0 : l0.length ≤ c0) (h : a8.f k l0 a1 = some r) :
  Calls Tryz.prog 96 #[.slice A0 l0.length c0, .string a1] w fun e w' => e = .returned (.int .i64 r) ∧ Drawn0 w w' := by
 have HR0 := am_ hr0; have HC0 := am_ hc0; clear hr0 hc0; have H := h; clear h; unfold a8.f at H
 have H' := am_ H; clear H; go_enter Tryz.func96, Tryz.ntmps96
 go_wp2; go_loopg [5] k (fun kq v5 w' => ∃ (x5_1 : Int), v5 = .int .i64 x5_1 ∧ aa (a8.l0 kq l0 a1 x5_1 = some r) ∧ aa (kq ≤ k) ∧ Drawn0 w w')
 case atStart => exact ⟨(0), u1_, H', ⟨Nat.le_refl _⟩, u3_⟩
 case round =>
  clear H'; obtain ⟨x5_1, rfl, HA, HK1, ⟨m1, rfl⟩⟩ := hrel; cases gk with
  | zero => exact absurd HA.out (by simp [a8.l0])
  | succ k1 =>
   have H := HA.out; clear HA; simp only [a8.l0] at H; by_cases c3 : x5_1 < (l0.length : Int)
   ·rw [if_pos c3] at H; have c3b0 := decide_eq_true c3; clear c3; obtain ⟨c4b0, H⟩ := gd_ H; have HC_ := am_ H; clear H; obtain ⟨ad199, e199, hx199_0, hx199_1, hx199_2⟩ := gH HR0.out x5_1 od_ od_; cases e199; obtain ⟨p199, q199⟩ := pt_ x5_1 l0.length; have H := HC_.out; clear HC_; by_cases c5 : ((an l0 x5_1).f0).toList = a1.toList
    ·rw [if_pos c5] at H; have c5b0 := cQ c5; have c5b1 := cO c5; clear c5; obtain rfl := si_ H; (first | rw [c5b0] | (simp only [ao, au]; rw [c5b0]) | skip)
     go_wp2; go_ret
     exact ⟨u4_, u3_⟩
    ·rw [if_neg c5] at H; have c5b0 := cT c5; have c5b1 := cV c5; have H' := am_ H; clear H; (first | rw [c5b0] | (simp only [ao, au]; rw [c5b0]) | skip)
     go_wp2; go_roundg k1
     case measure => have := HK1.out; omega
     case rel => exact ⟨(wrap64 (x5_1 + 1)), u1_, H', ⟨dc⟩, u3_⟩
   ·rw [if_neg c3] at H; have c3b0 := decide_eq_false c3; clear c3; obtain rfl := si_ H; go_wp2; go_ret
    exact ⟨u4_, u3_⟩
def dH.f (k : Nat) (l0 : List (S92)) (a1 : ByteArray) (a2 : Int) : Option (Bool) := (a8.f k l0 a1).bind fun t200 => (if t200 ≥ 0 then (if 0 ≤ t200 then (if t200 < (l0.length : Int) then (some (((an l0 t200).f1) == a2)) else (none)) else (none)) else (some false))
theorem dH.calls (k : Nat) (A0 : Option Addr) (c0 : Nat) (l0 : List (S92)) (a1 : ByteArray) (a2 : Int) (r : Bool) (w : World) (hr0 : Kd.C k92 w A0 l0.length l0) (hc0 : l0.length ≤ c0) (h : dH.f k l0 a1 a2 = some r) :
  Calls Tryz.prog 140 #[.slice A0 l0.length c0, .string a1, .int .i64 a2] w fun e w' => e = .returned (.bool r) ∧ Drawn0 w w' := by
 have HR0 := am_ hr0; have HC0 := am_ hc0; clear hr0 hc0; have H := h; clear h; unfold dH.f at H
 obtain ⟨t200, A4, H⟩ := bi_ H; by_cases c5 : t200 ≥ 0
 ·rw [if_pos c5] at H; have c5b0 : decide (0 ≤ t200) = true := decide_eq_true c5; clear c5; obtain ⟨c6b0, H⟩ := gd_ H; obtain ⟨c7b0, H⟩ := gd_ H; obtain rfl := si_ H; go_enter Tryz.func140, Tryz.ntmps140
  go_wp2_with (first | ((with_reducible refine gt_ 10 ?_); refine gD_ 10 Tryz.func96 (a8.calls k _ _ l0 a1 t200 _ ?side1 HC0.out A4.out) ?_; (case side1 => exact u33_); intro nd; obtain ⟨p201, q201⟩ := pq_ t200 l0.length; obtain ⟨ad201, e201, hx201_0, hx201_1, hx201_2⟩ := gH HR0.out t200 p201 q201; cases e201; obtain ⟨p201, q201⟩ := tt_ p201 q201))
  go_ret
  exact ⟨u4_, u3_⟩
 ·rw [if_neg c5] at H; have c5b0 : decide (0 ≤ t200) = false := decide_eq_false c5; clear c5; obtain rfl := si_ H; go_enter Tryz.func140, Tryz.ntmps140
  go_wp2_with (first | ((with_reducible refine gt_ 10 ?_); refine gD_ 10 Tryz.func96 (a8.calls k _ _ l0 a1 t200 _ ?side1 HC0.out A4.out) ?_; (case side1 => exact u33_); intro nd))
  go_ret
  exact ⟨u4_, u3_⟩
def cC.f (a0 : Int) : Option (Int) := if a0 ≥ 65 then (if a0 ≤ 90 then (some ((a0 + 32) % 256)) else (some a0)) else (some a0)
theorem cC.calls (a0 : Int) (r : Int) (w : World) (h : cC.f a0 = some r) :
  Calls Tryz.prog 136 #[.int .u8 a0] w fun e w' => e = .returned (.int .u8 r) ∧ Drawn0 w w' := by
 have H := h; clear h; unfold cC.f at H
 by_cases c2 : a0 ≥ 65
 ·rw [if_pos c2] at H; have c2b0 : decide (65 ≤ a0) = true := decide_eq_true c2; clear c2; by_cases c3 : a0 ≤ 90
  ·rw [if_pos c3] at H; have c3b0 := decide_eq_true c3; clear c3; obtain rfl := si_ H; go_enter Tryz.func136, Tryz.ntmps136
   go_wp2; go_ret
   exact ⟨u4_, u3_⟩
  ·rw [if_neg c3] at H; have c3b0 := decide_eq_false c3; clear c3; obtain rfl := si_ H; go_enter Tryz.func136, Tryz.ntmps136
   go_wp2; go_ret
   exact ⟨u4_, u3_⟩
 ·rw [if_neg c2] at H; have c2b0 : decide (65 ≤ a0) = false := decide_eq_false c2; clear c2; obtain rfl := si_ H; go_enter Tryz.func136, Tryz.ntmps136
  go_wp2; go_ret
  exact ⟨u4_, u3_⟩
def dd.l0 : Nat → ByteArray → List Int → Int → Option (ByteArray)
 | 0, _, _, _ => none
 | k + 1, x0, x3, x4 => if x4 < (x0.size : Int) then (if 0 ≤ x4 then ((cC.f (bt x0 x4)).bind fun t205 => (if x3.length < 140737488355328 then (dd.l0 k x0 (x3 ++ [t205]) (wrap64 (x4 + 1))) else (none))) else (none)) else (some (strOfNums x3))
def dd.f (k : Nat) (a0 : ByteArray) : Option (ByteArray) := dd.l0 k a0 (([] : List Int)) 0
theorem dd.calls (k : Nat) (a0 : ByteArray) (r : ByteArray) (w : World) (h : dd.f k a0 = some r) :
  Calls Tryz.prog 93 #[.string a0] w fun e w' => e = .returned (.string r) ∧ Below w.heap.size w w' := by
 have HB := am_ (Below.refl w.heap.size w); have H := h; clear h; unfold dd.f at H
 obtain ⟨y202, hy202⟩ : ∃ y_ : List Int, y_ = (([] : List Int)) := ⟨_, rfl⟩; replace H : (dd.l0 k a0 y202 0) = some r := by first | (rw [hy202]; with_reducible exact H) | (have H2_ := (Option.bind_some _ _).symm.trans H; rw [hy202]; with_reducible exact H2_) | (have H2_ := (Option.bind_some _ _).symm.trans H; with_reducible exact H2_) | with_reducible exact H | (rw [hy202]; exact H) | exact H
 have Ny202 := am_ hy202; clear hy202; have H' := am_ H; clear H; go_enter Tryz.func93, Tryz.ntmps93
 go_wp2_with (first | ((with_reducible refine az (N := 5) rfl ?_); refine Kd.R_lit (Kd.int .u8) _ 5 ?hg (N := 5) ?hd (xs := ([] : List Int)) (inner := []) (ok := fun _ => True) (okp := fun _ => True) ?hr ?hp (fun _ hk => hk) trivial (Below.refl _ _) (Nat.le_refl _) cN ?_; (case hd => rfl); (case hg => rfl); (case hr => exact u6_); (case hp => exact gt); intro v203 w2 ho3 hb hg_ hnew_; clear hg_ hnew_; (first | rw [← Ny202.out] at ho3 | (simp only [Int.reduceToNat] at ho3; rw [← Ny202.out] at ho3)); have HO204 := am_ (Kd.R_lower ho3 (av (bw_ HB))); replace HB := bs_ HB hb; clear hb ho3))
 go_loopg [3, 4] k (fun kq v3 v4 w' => ∃ (x3_1 : List Int) (x4_1 : Int), v4 = .int .i64 x4_1 ∧ aa (dd.l0 kq a0 x3_1 x4_1 = some r) ∧ aa (kq ≤ k) ∧ aa (Kd.R (Kd.int .u8) 5 w' w.heap.size (fun _ => True) v3 x3_1) ∧ aa (Below w.heap.size w w'))
 case atStart => exact ⟨(y202), (0), u1_, H', ⟨Nat.le_refl _⟩, ⟨aR_ HO204.out⟩, ⟨bw_ HB⟩⟩
 case round =>
  clear H'; obtain ⟨x3_1, x4_1, rfl, HA, HK1, HO_3, HB⟩ := hrel; cases gk with
  | zero => exact absurd HA.out (by simp [dd.l0])
  | succ k1 =>
   have H := HA.out; clear HA; simp only [dd.l0] at H; by_cases c4 : x4_1 < (a0.size : Int)
   ·rw [if_pos c4] at H; have c4b0 := decide_eq_true c4; clear c4; obtain ⟨c5b0, H⟩ := gd_ H; obtain ⟨t205, A7, H⟩ := bi_ H; obtain ⟨LMc8, H⟩ := gl_ H; generalize hy206 : ((x3_1 ++ [t205]) : List Int) = y206 at H; have Ny206 := am_ hy206.symm; clear hy206; have H' := am_ H; clear H; obtain ⟨p6, q6⟩ := pq_ x4_1 a0.size; have hx6 := d7 a0 x4_1; obtain ⟨p6, q6⟩ := tt_ p6 q6; go_wp2_with (first | ((with_reducible refine gt_ 16 ?_); refine gD_ 16 Tryz.func136 (cC.calls (bt a0 x4_1) t205 _ A7.out) ?_; intro nd) | ((with_reducible refine bM (b := .append) (xs := #[.tmp 12, .tmp 17]) rfl ?_); at_builtin; refine Kd.R_append (Kd.int .u8) (w0 := w) w.heap.size rfl (.tmp 12) (.tmp 17) 22 5 (.int .u8 0) 1 rfl Tryz.underlying22 info5 rfl bs u7_ u3 x3_1 t205 [.int .u8 t205] (fun _ => True) (fun _ => False) rfl rfl ?aP (fun _ hk => hk.elim) ?aF ?aO ?aB ?aS ?aL ?_; (case aP => exact rfl); (case aB => exact fG); (case aF => exact j4); (case aO => exact om); (case aS => exact fH); (case aL => have := LMc8.out; omega); intro v207 w9 ho hb hg hat; rw [← Ny206.out] at ho; replace HB := am_ (hb); have HO208 := am_ (ho); clear HO_3 ho hb hg hat))
    go_roundg k1
    case measure => have := HK1.out; omega
    case rel => exact ⟨(y206), (wrap64 (x4_1 + 1)), u1_, H', ⟨dc⟩, ⟨aR_ HO208.out⟩, ⟨bw_ HB⟩⟩
   ·rw [if_neg c4] at H; have c4b0 := decide_eq_false c4; clear c4; obtain rfl := si_ H; have hcv10 := kx (P := Tryz.prog) Tryz.underlying22 Tryz.underlying5 Tryz.underlying9 (Kd.own_of_R HO_3.out); go_wp2; go_ret
    exact ⟨u0_, bw_ HB⟩
def bG.l0 : Nat → ByteArray → List ByteArray → Int → Option (Bool)
 | 0, _, _, _ => none
 | k + 1, x0, x3, x4 => if x4 < (x3.length : Int) then (if 0 ≤ x4 then (if (eA ByteArray.empty x3 x4).toList = x0.toList then (some true) else (bG.l0 k x0 x3 (wrap64 (x4 + 1)))) else (none)) else (some false)
def bG.f (k : Nat) (a0 : ByteArray) : Option (Bool) := bG.l0 k a0 (([(⟨#[97]⟩ : ByteArray), (⟨#[97, 110]⟩ : ByteArray), (⟨#[97, 110, 100]⟩ : ByteArray), (⟨#[111, 102]⟩ : ByteArray), (⟨#[116, 104, 101]⟩ : ByteArray), (⟨#[116, 111]⟩ : ByteArray)] : List ByteArray)) 0
theorem bG.calls (k : Nat) (a0 : ByteArray) (r : Bool) (w : World) (h : bG.f k a0 = some r) :
  Calls Tryz.prog 94 #[.string a0] w fun e w' => e = .returned (.bool r) ∧ Below w.heap.size w w' := by
 have HB := am_ (Below.refl w.heap.size w); have H := h; clear h; unfold bG.f at H
 generalize hy209 : ((([(⟨#[97]⟩ : ByteArray), (⟨#[97, 110]⟩ : ByteArray), (⟨#[97, 110, 100]⟩ : ByteArray), (⟨#[111, 102]⟩ : ByteArray), (⟨#[116, 104, 101]⟩ : ByteArray), (⟨#[116, 111]⟩ : ByteArray)] : List ByteArray)) : List ByteArray) = y209 at H; have Ny209 := am_ hy209.symm; clear hy209; have H' := am_ H; clear H; go_enter Tryz.func94, Tryz.ntmps94
 go_wp2_with (first | ((with_reducible refine az (N := 5) rfl ?_); refine Kd.R_lit Kd.string _ 9 ?hg (N := 5) ?hd (xs := ([(⟨#[97]⟩ : ByteArray), (⟨#[97, 110]⟩ : ByteArray), (⟨#[97, 110, 100]⟩ : ByteArray), (⟨#[111, 102]⟩ : ByteArray), (⟨#[116, 104, 101]⟩ : ByteArray), (⟨#[116, 111]⟩ : ByteArray)] : List ByteArray)) (inner := [.string (⟨#[97]⟩ : ByteArray), .string (⟨#[97, 110]⟩ : ByteArray), .string (⟨#[97, 110, 100]⟩ : ByteArray), .string (⟨#[111, 102]⟩ : ByteArray), .string (⟨#[116, 104, 101]⟩ : ByteArray), .string (⟨#[116, 111]⟩ : ByteArray)]) (ok := fun _ => True) (okp := fun _ => True) ?hr ?hp (fun _ hk => hk) trivial (Below.refl _ _) (Nat.le_refl _) cN ?_; (case hd => rfl); (case hg => rfl); (case hr => exact u6_); (case hp => exact (Reps.one (show Kd.M Kd.string _ _ _ (⟨#[97]⟩ : ByteArray) [.string (⟨#[97]⟩ : ByteArray)] from rfl) (Reps.one (show Kd.M Kd.string _ _ _ (⟨#[97, 110]⟩ : ByteArray) [.string (⟨#[97, 110]⟩ : ByteArray)] from rfl) (Reps.one (show Kd.M Kd.string _ _ _ (⟨#[97, 110, 100]⟩ : ByteArray) [.string (⟨#[97, 110, 100]⟩ : ByteArray)] from rfl) (Reps.one (show Kd.M Kd.string _ _ _ (⟨#[111, 102]⟩ : ByteArray) [.string (⟨#[111, 102]⟩ : ByteArray)] from rfl) (Reps.one (show Kd.M Kd.string _ _ _ (⟨#[116, 104, 101]⟩ : ByteArray) [.string (⟨#[116, 104, 101]⟩ : ByteArray)] from rfl) (Reps.one (show Kd.M Kd.string _ _ _ (⟨#[116, 111]⟩ : ByteArray) [.string (⟨#[116, 111]⟩ : ByteArray)] from rfl) (Reps.none _ _)))))))); intro v210 w2 ho3 hb hg_ hnew_; clear hg_ hnew_; (first | rw [← Ny209.out] at ho3 | (simp only [Int.reduceToNat] at ho3; rw [← Ny209.out] at ho3)); have HO211 := am_ (Kd.R_lower ho3 (av (bw_ HB))); replace HB := bs_ HB hb; clear hb ho3))
 go_loopg [4] k (fun kq v4 w' => ∃ (x4_1 : Int), v4 = .int .i64 x4_1 ∧ aa (bG.l0 kq a0 y209 x4_1 = some r) ∧ aa (kq ≤ k) ∧ aa (Kd.R Kd.string 9 w' w.heap.size (fun _ => True) v210 y209) ∧ aa (Below w.heap.size w w'))
 case atStart => exact ⟨(0), u1_, H', ⟨Nat.le_refl _⟩, ⟨aR_ HO211.out⟩, ⟨bw_ HB⟩⟩
 case round =>
  clear H'; obtain ⟨x4_1, rfl, HA, HK1, HO_3, HB⟩ := hrel; cases gk with
  | zero => exact absurd HA.out (by simp [bG.l0])
  | succ k1 =>
   have H := HA.out; clear HA; simp only [bG.l0] at H; by_cases c4 : x4_1 < (y209.length : Int)
   ·rw [if_pos c4] at H; have c4b0 := decide_eq_true c4; clear c4; obtain ⟨c5b0, H⟩ := gd_ H; have HC_ := am_ H; clear H; obtain ⟨Ao7, co7, eo7⟩ := Kd.R_slice HO_3.out; subst eo7; obtain ⟨ad212, e212, hx212_0⟩ := Kd.at_string (Kd.R_reads' HO_3.out).2.2 x4_1 od_ od_; cases e212; obtain ⟨p212, q212⟩ := pt_ x4_1 y209.length; have H := HC_.out; clear HC_; by_cases c6 : (eA ByteArray.empty y209 x4_1).toList = a0.toList
    ·rw [if_pos c6] at H; have c6b0 := cQ c6; have c6b1 := cO c6; clear c6; obtain rfl := si_ H; (first | rw [c6b0] | (simp only [ao, au]; rw [c6b0]) | skip)
     go_wp2; go_ret
     exact ⟨u0_, bw_ HB⟩
    ·rw [if_neg c6] at H; have c6b0 := cT c6; have c6b1 := cV c6; have H' := am_ H; clear H; (first | rw [c6b0] | (simp only [ao, au]; rw [c6b0]) | skip)
     go_wp2; go_roundg k1
     case measure => have := HK1.out; omega
     case rel => exact ⟨(wrap64 (x4_1 + 1)), u1_, H', ⟨dc⟩, ⟨aR_ HO_3.out⟩, ⟨bw_ HB⟩⟩
   ·rw [if_neg c4] at H; have c4b0 := decide_eq_false c4; clear c4; obtain rfl := si_ H; obtain ⟨Ao9, co9, eo9⟩ := Kd.R_slice HO_3.out; subst eo9; go_wp2; go_ret
    exact ⟨u0_, bw_ HB⟩
mutual
def bA.j0 : Nat → ByteArray → Option (ByteArray)
 | 0, _ => none
 | k + 1, x3 => if (x3.size : Int) > 3 then (if 0 ≤ (wrap64 ((x3.size : Int) - 1)) then (if (wrap64 ((x3.size : Int) - 1)) < (x3.size : Int) then (if (bt x3 (wrap64 ((x3.size : Int) - 1))) = 115 then (if 0 ≤ (wrap64 ((x3.size : Int) - 2)) then (if (wrap64 ((x3.size : Int) - 2)) < (x3.size : Int) then (bA.j1 k x3 (x3.size : Int) ((bt x3 (wrap64 ((x3.size : Int) - 2))) != 115)) else (none)) else (none)) else (bA.j1 k x3 (x3.size : Int) false)) else (none)) else (none)) else (bA.j1 k x3 (x3.size : Int) false)
def bA.j1 : Nat → ByteArray → Int → Bool → Option (ByteArray)
 | 0, _, _, _ => none
 | k + 1, x3, x4, x29 => if x29 = true then (if 0 ≤ (wrap64 (x4 - 1)) then (if (wrap64 (x4 - 1)) ≤ (x3.size : Int) then ((bG.f k (x3.extract 0 ((wrap64 (x4 - 1)) : Int).toNat)).bind fun t214 => (if t214 = true then (some (⟨#[]⟩ : ByteArray)) else (some (x3.extract 0 ((wrap64 (x4 - 1)) : Int).toNat)))) else (none)) else (none)) else ((bG.f k x3).bind fun t215 => (if t215 = true then (some (⟨#[]⟩ : ByteArray)) else (some x3)))
end
def bA.f (k : Nat) (a0 : ByteArray) : Option (ByteArray) := (dd.f k a0).bind fun t213 => (if (t213.size : Int) > 12 then (if 0 ≤ 12 then (if 12 ≤ (t213.size : Int) then (bA.j0 k (t213.extract 0 12)) else (none)) else (none)) else (bA.j0 k t213))
theorem bA.calls (k : Nat) (a0 : ByteArray) (r : ByteArray) (w : World) (h : bA.f k a0 = some r) :
  Calls Tryz.prog 47 #[.string a0] w fun e w' => e = .returned (.string r) ∧ Below w.heap.size w w' := by
 have HB := am_ (Below.refl w.heap.size w); have H := h; clear h; unfold bA.f at H
 obtain ⟨t213, A2, H⟩ := bi_ H; have HC3 := am_ H; clear H; go_enter Tryz.func47, Tryz.ntmps47
 go_upto_if 9 with (first | ((with_reducible refine gt_ 6 ?_); refine gB_ 6 Tryz.func93 (dd.calls k a0 t213 _ A2.out) ?_; intro w4 hb; replace HB := bs_ HB hb; (try clear hb)))
 (try simp only [Act.put, List.setIfInBounds_toArray, List.set_cons_zero, List.set_cons_succ])
 go_cut [3] (fun v3 wc => ∃ (kq : Nat) (x3_2 : ByteArray), v3 = .string x3_2 ∧ aa (bA.j0 kq x3_2 = some r) ∧ aa (kq ≤ k) ∧ aa (Below w.heap.size w wc))
 case first =>
  have H := HC3.out; clear HC3; by_cases c5 : (t213.size : Int) > 12
  ·rw [if_pos c5] at H; have c5b0 : decide (12 < (t213.size : Int)) = true := decide_eq_true c5; have c5b1 : decide (12 < t213.size) = true := decide_eq_true u7_; clear c5; (first | rw [c5b0] | (simp only [ao, au]; rw [c5b0]) | skip)
   obtain ⟨c6b0, c6b1, H⟩ := ge_ H; obtain ⟨c7b0, c7b1, H⟩ := ge_ H; have H' := am_ H; clear H; go_wp2; go_meet
   case rel => exact ⟨_, (t213.extract 0 12), u1_, H', ⟨j5⟩, ⟨bw_ HB⟩⟩
  ·rw [if_neg c5] at H; have c5b0 : decide (12 < (t213.size : Int)) = false := decide_eq_false c5; have c5b1 : decide (12 < t213.size) = false := decide_eq_false u7_; clear c5; (first | rw [c5b0] | (simp only [ao, au]; rw [c5b0]) | skip)
   have H' := am_ H; clear H; go_wp2; go_meet
   case rel => exact ⟨_, (t213), u1_, H', ⟨j5⟩, ⟨bw_ HB⟩⟩
 case rest =>
  clear HC3; obtain ⟨kq, x3_2, rfl, HA, HJ2, HB⟩ := hcut; cases kq with
  | zero => exact absurd HA.out (by simp [bA.j0])
  | succ kj2 =>
   have H := HA.out; clear HA; simp only [bA.j0] at H; have HC8 := am_ H; clear H; go_upto_region 5 with (fail)
   go_cut [29] (fun v29 wc => ∃ (kq : Nat) (x29_7 : Bool), v29 = .bool x29_7 ∧ aa (bA.j1 kq x3_2 (x3_2.size : Int) x29_7 = some r) ∧ aa (kq ≤ kj2) ∧ aa (Below w.heap.size w wc))
   case first =>
    have H := HC8.out; clear HC8; by_cases c9 : (x3_2.size : Int) > 3
    ·rw [if_pos c9] at H; have c9b0 : decide (3 < (x3_2.size : Int)) = true := decide_eq_true c9; have c9b1 : decide (3 < x3_2.size) = true := decide_eq_true u7_; clear c9; (first | rw [c9b0] | (simp only [ao, au]; rw [c9b0]) | skip)
     obtain ⟨ji10, hji10⟩ : ∃ j_ : Int, (wrap64 ((x3_2.size : Int) - 1)) = j_ := ⟨_, rfl⟩; replace H : (if 0 ≤ (ji10) then (if (ji10) < (x3_2.size : Int) then (if (bt x3_2 (ji10)) = 115 then (if 0 ≤ (wrap64 ((x3_2.size : Int) - 2)) then (if (wrap64 ((x3_2.size : Int) - 2)) < (x3_2.size : Int) then (bA.j1 kj2 x3_2 (x3_2.size : Int) ((bt x3_2 (wrap64 ((x3_2.size : Int) - 2))) != 115)) else (none)) else (none)) else (bA.j1 kj2 x3_2 (x3_2.size : Int) false)) else (none)) else (none)) = some r := by first | (rw [hji10] at H; exact H) | (simp only [hji10] at H ⊢; exact H)
     have hji10w : (IntKind.i64.wrap ((x3_2.size : Int) - 1)) = ji10 := (ao _).trans hji10; obtain ⟨c11b0, H⟩ := gd_ H; obtain ⟨c12b0, H⟩ := gd_ H; have HC_ := am_ H; clear H; obtain ⟨p13, q13⟩ := pq_ (ji10) x3_2.size; have hx13 := d7 x3_2 (ji10); obtain ⟨p13, q13⟩ := tt_ p13 q13; have H := HC_.out; clear HC_; by_cases c14 : (bt x3_2 (ji10)) = 115
     ·rw [if_pos c14] at H; have c14b0 := cQ c14; have c14b1 := cO c14; clear c14; obtain ⟨ji15, hji15⟩ : ∃ j_ : Int, (wrap64 ((x3_2.size : Int) - 2)) = j_ := ⟨_, rfl⟩; replace H : (if 0 ≤ (ji15) then (if (ji15) < (x3_2.size : Int) then (bA.j1 kj2 x3_2 (x3_2.size : Int) ((bt x3_2 (ji15)) != 115)) else (none)) else (none)) = some r := by first | (rw [hji15] at H; exact H) | (simp only [hji15] at H ⊢; exact H)
      have hji15w : (IntKind.i64.wrap ((x3_2.size : Int) - 2)) = ji15 := (ao _).trans hji15; obtain ⟨c16b0, H⟩ := gd_ H; obtain ⟨c17b0, H⟩ := gd_ H; have H' := am_ H; clear H; (first | rw [c14b0] | (simp only [ao, au]; rw [c14b0]) | skip)
      obtain ⟨p18, q18⟩ := pq_ (ji15) x3_2.size; have hx18 := d7 x3_2 (ji15); obtain ⟨p18, q18⟩ := tt_ p18 q18; go_wp2; go_meet
      case rel => exact ⟨_, (((bt x3_2 (ji15)) != 115)), (by first | rfl | (simp; done) | (simp only [← hji15] <;> (first | rfl | simp)) | (simp [*]; done)), H', ⟨u69_⟩, ⟨bw_ HB⟩⟩
     ·rw [if_neg c14] at H; have c14b0 := cT c14; have c14b1 := cV c14; have H' := am_ H; clear H; (first | rw [c14b0] | (simp only [ao, au]; rw [c14b0]) | skip)
      go_wp2; go_meet
      case rel => exact ⟨_, (false), u1_, H', ⟨u69_⟩, ⟨bw_ HB⟩⟩
    ·rw [if_neg c9] at H; have c9b0 : decide (3 < (x3_2.size : Int)) = false := decide_eq_false c9; have c9b1 : decide (3 < x3_2.size) = false := decide_eq_false u7_; clear c9; (first | rw [c9b0] | (simp only [ao, au]; rw [c9b0]) | skip)
     have H' := am_ H; clear H; go_wp2; go_meet
     case rel => exact ⟨_, (false), u1_, H', ⟨u69_⟩, ⟨bw_ HB⟩⟩
   case rest =>
    clear HC8; obtain ⟨kq, x29_7, rfl, HA, HJ7, HB⟩ := hcut; cases kq with
    | zero => exact absurd HA.out (by simp [bA.j1])
    | succ kj7 =>
     have H := HA.out; clear HA; simp only [bA.j1] at H; cases x29_7
     ·replace H := hf_ H; obtain ⟨t215, A27, H⟩ := bi_ H; cases t215
      ·replace H := hf_ H; obtain rfl := si_ H; go_wp2_with (first | ((with_reducible refine gt_ 35 ?_); refine gB_ 35 Tryz.func94 (bG.calls kj7 x3_2 false _ A27.out) ?_; intro w30 hb; replace HB := bs_ HB hb; (try clear hb)))
       go_ret
       exact ⟨u0_, bw_ HB⟩
      ·replace H := ht_ H; obtain rfl := si_ H; go_wp2_with (first | ((with_reducible refine gt_ 35 ?_); refine gB_ 35 Tryz.func94 (bG.calls kj7 x3_2 true _ A27.out) ?_; intro w29 hb; replace HB := bs_ HB hb; (try clear hb)))
       go_ret
       exact ⟨u0_, bw_ HB⟩
     ·replace H := ht_ H; obtain ⟨ji20, hji20⟩ : ∃ j_ : Int, (wrap64 ((x3_2.size : Int) - 1)) = j_ := ⟨_, rfl⟩; replace H : (if 0 ≤ (ji20) then (if (ji20) ≤ (x3_2.size : Int) then ((bG.f kj7 (x3_2.extract 0 ((ji20) : Int).toNat)).bind fun t214 => (if t214 = true then (some (⟨#[]⟩ : ByteArray)) else (some (x3_2.extract 0 ((ji20) : Int).toNat)))) else (none)) else (none)) = some r := by first | (rw [hji20] at H; exact H) | (simp only [hji20] at H ⊢; exact H)
      have hji20w : (IntKind.i64.wrap ((x3_2.size : Int) - 1)) = ji20 := (ao _).trans hji20; obtain ⟨c21b0, c21b1, H⟩ := ge_ H; obtain ⟨c22b0, c22b1, H⟩ := ge_ H; obtain ⟨t214, A23, H⟩ := bi_ H; cases t214
      ·replace H := hf_ H; obtain rfl := si_ H; go_wp2_with (first | ((with_reducible refine ei (f := 94) rfl ?_); refine gG (some 35) rfl rfl Tryz.func94 b9 rfl #[.string (x3_2.extract 0 ((ji20) : Int).toNat)] rfl u46_ ?_; (with_reducible refine (bG.calls kj7 (x3_2.extract 0 ((ji20) : Int).toNat) false _ A23.out).mono ?_); rintro e w26 ⟨rfl, hb⟩; refine ⟨_, rfl, ?_⟩; replace HB := bs_ HB hb; (try clear hb)))
       go_ret
       exact ⟨u41_, bw_ HB⟩
      ·replace H := ht_ H; obtain rfl := si_ H; go_wp2_with (first | ((with_reducible refine ei (f := 94) rfl ?_); refine gG (some 35) rfl rfl Tryz.func94 b9 rfl #[.string (x3_2.extract 0 ((ji20) : Int).toNat)] rfl u46_ ?_; (with_reducible refine (bG.calls kj7 (x3_2.extract 0 ((ji20) : Int).toNat) true _ A23.out).mono ?_); rintro e w25 ⟨rfl, hb⟩; refine ⟨_, rfl, ?_⟩; replace HB := bs_ HB hb; (try clear hb)))
       go_ret
       exact ⟨u41_, bw_ HB⟩
def dy.f (a0 : Int) : Option (Bool) := (cC.f a0).bind fun t216 => (if t216 ≥ 97 then (if t216 ≤ 122 then (some true) else (if t216 ≥ 48 then (some (decide (t216 ≤ 57))) else (some false))) else (if t216 ≥ 48 then (some (decide (t216 ≤ 57))) else (some false)))
theorem dy.calls (a0 : Int) (r : Bool) (w : World) (h : dy.f a0 = some r) :
  Calls Tryz.prog 181 #[.int .u8 a0] w fun e w' => e = .returned (.bool r) ∧ Drawn0 w w' := by
 have H := h; clear h; unfold dy.f at H
 obtain ⟨t216, A2, H⟩ := bi_ H; by_cases c3 : t216 ≥ 97
 ·rw [if_pos c3] at H; have c3b0 : decide (97 ≤ t216) = true := decide_eq_true c3; clear c3; by_cases c4 : t216 ≤ 122
  ·rw [if_pos c4] at H; have c4b0 := decide_eq_true c4; clear c4; obtain rfl := si_ H; go_enter Tryz.func181, Tryz.ntmps181
   go_wp2_with (first | ((with_reducible refine gt_ 5 ?_); refine gD_ 5 Tryz.func136 (cC.calls a0 t216 _ A2.out) ?_; intro nd))
   go_ret
   exact ⟨u4_, u3_⟩
  ·rw [if_neg c4] at H; have c4b0 := decide_eq_false c4; clear c4; by_cases c5 : t216 ≥ 48
   ·rw [if_pos c5] at H; have c5b0 : decide (48 ≤ t216) = true := decide_eq_true c5; clear c5; obtain rfl := si_ H; go_enter Tryz.func181, Tryz.ntmps181
    go_wp2_with (first | ((with_reducible refine gt_ 5 ?_); refine gD_ 5 Tryz.func136 (cC.calls a0 t216 _ A2.out) ?_; intro nd))
    go_ret
    exact ⟨u4_, u3_⟩
   ·rw [if_neg c5] at H; have c5b0 : decide (48 ≤ t216) = false := decide_eq_false c5; clear c5; obtain rfl := si_ H; go_enter Tryz.func181, Tryz.ntmps181
    go_wp2_with (first | ((with_reducible refine gt_ 5 ?_); refine gD_ 5 Tryz.func136 (cC.calls a0 t216 _ A2.out) ?_; intro nd))
    go_ret
    exact ⟨u4_, u3_⟩
 ·rw [if_neg c3] at H; have c3b0 : decide (97 ≤ t216) = false := decide_eq_false c3; clear c3; by_cases c6 : t216 ≥ 48
  ·rw [if_pos c6] at H; have c6b0 : decide (48 ≤ t216) = true := decide_eq_true c6; clear c6; obtain rfl := si_ H; go_enter Tryz.func181, Tryz.ntmps181
   go_wp2_with (first | ((with_reducible refine gt_ 5 ?_); refine gD_ 5 Tryz.func136 (cC.calls a0 t216 _ A2.out) ?_; intro nd))
   go_ret
   exact ⟨u4_, u3_⟩
  ·rw [if_neg c6] at H; have c6b0 : decide (48 ≤ t216) = false := decide_eq_false c6; clear c6; obtain rfl := si_ H; go_enter Tryz.func181, Tryz.ntmps181
   go_wp2_with (first | ((with_reducible refine gt_ 5 ?_); refine gD_ 5 Tryz.func136 (cC.calls a0 t216 _ A2.out) ?_; intro nd))
   go_ret
   exact ⟨u4_, u3_⟩
mutual
def aZ.l0 : Nat → ByteArray → List (S90) → Int → Option ((List (S90)))
 | 0, _, _, _ => none
 | k + 1, x0, x3, x4 => if x4 < (x0.size : Int) then (aZ.l1 k x0 x3 x4 x4) else (some x3)
def aZ.l1 : Nat → ByteArray → List (S90) → Int → Int → Option ((List (S90)))
 | 0, _, _, _, _ => none
 | k + 1, x0, x3, x4, x5 => if x5 < (x0.size : Int) then (if 0 ≤ x5 then ((dy.f (bt x0 x5)).bind fun t220 => (if t220 = true then (aZ.l1 k x0 x3 x4 (wrap64 (x5 + 1))) else (if x5 = x4 then (aZ.l0 k x0 x3 (wrap64 (x4 + 1))) else (if 0 ≤ x4 then (if x4 ≤ x5 then (if x5 ≤ (x0.size : Int) then (if x3.length < 4398046511104 then (aZ.l0 k x0 (x3 ++ [(⟨x0.extract (x4 : Int).toNat (x5 : Int).toNat, x4, x5⟩ : S90)]) x5) else (none)) else (none)) else (none)) else (none))))) else (none)) else (if x5 = x4 then (aZ.l0 k x0 x3 (wrap64 (x4 + 1))) else (if 0 ≤ x4 then (if x4 ≤ x5 then (if x5 ≤ (x0.size : Int) then (if x3.length < 4398046511104 then (aZ.l0 k x0 (x3 ++ [(⟨x0.extract (x4 : Int).toNat (x5 : Int).toNat, x4, x5⟩ : S90)]) x5) else (none)) else (none)) else (none)) else (none)))
end
def aZ.f (k : Nat) (a0 : ByteArray) : Option ((List (S90))) := aZ.l0 k a0 (([] : List (S90))) 0
theorem aZ.calls (k : Nat) (a0 : ByteArray) (r : List (S90)) (w : World) (h : aZ.f k a0 = some r) :
  Calls Tryz.prog 161 #[.string a0] w fun e w' => ∃ v0_ : Value, e = .returned (v0_) ∧ Kd.R k90 90 w' w.heap.size (fun _ => True) v0_ r ∧ Below w.heap.size w w' := by
 have hu90 := Tryz.underlying90; have HB := am_ (Below.refl w.heap.size w); have H := h; clear h; unfold aZ.f at H
 obtain ⟨y217, hy217⟩ : ∃ y_ : List (S90), y_ = (([] : List (S90))) := ⟨_, rfl⟩; replace H : (aZ.l0 k a0 y217 0) = some r := by first | (rw [hy217]; with_reducible exact H) | (have H2_ := (Option.bind_some _ _).symm.trans H; rw [hy217]; with_reducible exact H2_) | (have H2_ := (Option.bind_some _ _).symm.trans H; with_reducible exact H2_) | with_reducible exact H | (rw [hy217]; exact H) | exact H
 have Ny217 := am_ hy217; clear hy217; have H' := am_ H; clear H; go_enter Tryz.func161, Tryz.ntmps161
 go_wp2_with (first | ((with_reducible refine az (N := 6) rfl ?_); refine Kd.R_lit k90 _ 90 ?hg (N := 6) ?hd (xs := ([] : List (S90))) (inner := []) (ok := fun _ => True) (okp := fun _ => True) ?hr ?hp (fun _ hk => hk) trivial (Below.refl _ _) (Nat.le_refl _) cN ?_; (case hd => rfl); (case hg => rfl); (case hr => exact u6_); (case hp => exact gt); intro v218 w2 ho3 hb hg_ hnew_; clear hg_ hnew_; (first | rw [← Ny217.out] at ho3 | (simp only [Int.reduceToNat] at ho3; rw [← Ny217.out] at ho3)); have HO219 := am_ (Kd.R_lower ho3 (av (bw_ HB))); replace HB := bs_ HB hb; clear hb ho3))
 go_loopg [3, 4] k (fun kq v3 v4 w' => ∃ (x3_1 : List (S90)) (x4_1 : Int), v4 = .int .i64 x4_1 ∧ aa (aZ.l0 kq a0 x3_1 x4_1 = some r) ∧ aa (kq ≤ k) ∧ aa (Kd.R k90 90 w' w.heap.size (fun _ => True) v3 x3_1) ∧ aa (Below w.heap.size w w'))
 case atStart => exact ⟨(y217), (0), u1_, H', ⟨Nat.le_refl _⟩, ⟨aR_ HO219.out⟩, ⟨bw_ HB⟩⟩
 case round =>
  clear H'; obtain ⟨x3_1, x4_1, rfl, HA, HK1, HO_3, HB⟩ := hrel; cases gk with
  | zero => exact absurd HA.out (by simp [aZ.l0])
  | succ k1 =>
   have H := HA.out; clear HA; simp only [aZ.l0] at H; by_cases c4 : x4_1 < (a0.size : Int)
   ·rw [if_pos c4] at H; have c4b0 := decide_eq_true c4; clear c4; have H' := am_ H; clear H; go_wp2; go_loopg [5] k1 (fun kq v5 w' => ∃ (x5_2 : Int), v5 = .int .i64 x5_2 ∧ aa (aZ.l1 kq a0 x3_1 x4_1 x5_2 = some r) ∧ aa (kq ≤ k1) ∧ aa (Kd.R k90 90 w' w.heap.size (fun _ => True) u3 x3_1) ∧ aa (Below w.heap.size w w'))
    case atStart => exact ⟨(x4_1), u1_, H', ⟨Nat.le_refl _⟩, ⟨aR_ HO_3.out⟩, ⟨bw_ HB⟩⟩
    case round =>
     clear H'; try clear c4
     try clear c4b0
     obtain ⟨x5_2, rfl, HA, HK2, HO_3, HB⟩ := hrel; cases gk with
     | zero => exact absurd HA.out (by simp [aZ.l1])
     | succ k2 =>
      have H := HA.out; clear HA; simp only [aZ.l1] at H; by_cases c5 : x5_2 < (a0.size : Int)
      ·rw [if_pos c5] at H; have c5b0 := decide_eq_true c5; clear c5; obtain ⟨c6b0, H⟩ := gd_ H; obtain ⟨t220, A8, H⟩ := bi_ H; have HC_ := am_ H; clear H; obtain ⟨p7, q7⟩ := pq_ x5_2 a0.size; have hx7 := d7 a0 x5_2; obtain ⟨p7, q7⟩ := tt_ p7 q7; have H := HC_.out; clear HC_; cases t220
       ·replace H := hf_ H; have HC_ := am_ H; clear H; have H := HC_.out; clear HC_; by_cases c10 : x5_2 = x4_1
        ·rw [if_pos c10] at H; have c10b0 := cQ c10; have c10b1 := cO c10; clear c10; have H' := am_ H; clear H; (first | rw [c10b0] | (simp only [ao, au]; rw [c10b0]) | skip)
         go_wp2_with (first | (go_at_call 181; (with_reducible refine (dy.calls (bt a0 x5_2) false _ A8.out).mono ?_); rintro e w' ⟨rfl, ⟨nd, rfl⟩⟩))
         go_roundg k2
         case measure => have := HK1.out; have := HK2.out; omega
         case rel => exact ⟨(x3_1), (wrap64 (x4_1 + 1)), u1_, H', ⟨lz⟩, ⟨aR_ HO_3.out⟩, ⟨bw_ HB⟩⟩
        ·rw [if_neg c10] at H; have c10b0 := cT c10; have c10b1 := cV c10; obtain ⟨c11b0, c11b1, H⟩ := ge_ H; obtain ⟨c12b0, c12b1, H⟩ := ge_ H; obtain ⟨c13b0, c13b1, H⟩ := ge_ H; obtain ⟨LMc14, H⟩ := gl_ H; generalize hy221 : ((x3_1 ++ [(⟨a0.extract (x4_1 : Int).toNat (x5_2 : Int).toNat, x4_1, x5_2⟩ : S90)]) : List (S90)) = y221 at H; have Ny221 := am_ hy221.symm; clear hy221; have H' := am_ H; clear H; (first | rw [c10b0] | (simp only [ao, au]; rw [c10b0]) | skip)
         go_wp2_with (first | (go_at_call 181; (with_reducible refine (dy.calls (bt a0 x5_2) false _ A8.out).mono ?_); rintro e w' ⟨rfl, ⟨nd, rfl⟩⟩) | ((with_reducible refine bM (b := .append) (xs := #[.tmp 29, .tmp 37]) rfl ?_); at_builtin; refine Kd.R_append k90 (w0 := w) w.heap.size rfl (.tmp 29) (.tmp 37) 87 90 (.agg #[(.string ⟨#[]⟩), (.int .i64 0), (.int .i64 0)]) 32 rfl Tryz.underlying87 mW rfl bs u7_ u3 x3_1 (⟨a0.extract (x4_1 : Int).toNat (x5_2 : Int).toNat, x4_1, x5_2⟩ : S90) [.string (a0.extract (x4_1 : Int).toNat (x5_2 : Int).toNat), .int .i64 x4_1, .int .i64 x5_2] (fun _ => True) (fun _ => False) rfl rfl ?aP (fun _ hk => hk.elim) ?aF ?aO ?aB ?aS ?aL ?_; (case aP => exact kg _ _ _ (⟨a0.extract (x4_1 : Int).toNat (x5_2 : Int).toNat, x4_1, x5_2⟩ : S90)); (case aB => exact fG); (case aF => exact j4); (case aO => exact om); (case aS => exact fH); (case aL => have := LMc14.out; omega); intro v222 w15 ho hb hg hat; rw [← Ny221.out] at ho; replace HB := am_ (hb); have HO223 := am_ (ho); clear HO_3 ho hb hg hat))
         go_roundg k2
         case measure => have := HK1.out; have := HK2.out; omega
         case rel => exact ⟨(y221), (x5_2), u1_, H', ⟨lz⟩, ⟨aR_ HO223.out⟩, ⟨bw_ HB⟩⟩
       ·replace H := ht_ H; have H' := am_ H; clear H; go_wp2_with (first | (go_at_call 181; (with_reducible refine (dy.calls (bt a0 x5_2) true _ A8.out).mono ?_); rintro e w' ⟨rfl, ⟨nd, rfl⟩⟩))
        go_roundg k2
        case measure => have := HK1.out; have := HK2.out; omega
        case rel => exact ⟨(wrap64 (x5_2 + 1)), u1_, H', ⟨lz⟩, ⟨aR_ HO_3.out⟩, ⟨bw_ HB⟩⟩
      ·rw [if_neg c5] at H; have c5b0 := decide_eq_false c5; clear c5; by_cases c16 : x5_2 = x4_1
       ·rw [if_pos c16] at H; have c16b0 := cQ c16; have c16b1 := cO c16; clear c16; have H' := am_ H; clear H; go_wp2; go_roundg k2
        case measure => have := HK1.out; have := HK2.out; omega
        case rel => exact ⟨(x3_1), (wrap64 (x4_1 + 1)), u1_, H', ⟨lz⟩, ⟨aR_ HO_3.out⟩, ⟨bw_ HB⟩⟩
       ·rw [if_neg c16] at H; have c16b0 := cT c16; have c16b1 := cV c16; obtain ⟨c17b0, c17b1, H⟩ := ge_ H; obtain ⟨c18b0, c18b1, H⟩ := ge_ H; obtain ⟨c19b0, c19b1, H⟩ := ge_ H; obtain ⟨LMc20, H⟩ := gl_ H; generalize hy224 : ((x3_1 ++ [(⟨a0.extract (x4_1 : Int).toNat (x5_2 : Int).toNat, x4_1, x5_2⟩ : S90)]) : List (S90)) = y224 at H; have Ny224 := am_ hy224.symm; clear hy224; have H' := am_ H; clear H; go_wp2_with (first | ((with_reducible refine bM (b := .append) (xs := #[.tmp 29, .tmp 37]) rfl ?_); at_builtin; refine Kd.R_append k90 (w0 := w) w.heap.size rfl (.tmp 29) (.tmp 37) 87 90 (.agg #[(.string ⟨#[]⟩), (.int .i64 0), (.int .i64 0)]) 32 rfl Tryz.underlying87 mW rfl bs u7_ u3 x3_1 (⟨a0.extract (x4_1 : Int).toNat (x5_2 : Int).toNat, x4_1, x5_2⟩ : S90) [.string (a0.extract (x4_1 : Int).toNat (x5_2 : Int).toNat), .int .i64 x4_1, .int .i64 x5_2] (fun _ => True) (fun _ => False) rfl rfl ?aP (fun _ hk => hk.elim) ?aF ?aO ?aB ?aS ?aL ?_; (case aP => exact kg _ _ _ (⟨a0.extract (x4_1 : Int).toNat (x5_2 : Int).toNat, x4_1, x5_2⟩ : S90)); (case aB => exact fG); (case aF => exact j4); (case aO => exact om); (case aS => exact fH); (case aL => have := LMc20.out; omega); intro v225 w21 ho hb hg hat; rw [← Ny224.out] at ho; replace HB := am_ (hb); have HO226 := am_ (ho); clear HO_3 ho hb hg hat))
        go_roundg k2
        case measure => have := HK1.out; have := HK2.out; omega
        case rel => exact ⟨(y224), (x5_2), u1_, H', ⟨lz⟩, ⟨aR_ HO226.out⟩, ⟨bw_ HB⟩⟩
   ·rw [if_neg c4] at H; have c4b0 := decide_eq_false c4; clear c4; obtain rfl := si_ H; go_wp2; go_ret
    exact ⟨_, u0_, aR_ HO_3.out, bw_ HB⟩
def cy.l0 : Nat → List ByteArray → List (S90) → Int → Option (List ByteArray)
 | 0, _, _, _ => none
 | k + 1, x3, x4, x5 => if x5 < (x4.length : Int) then (if 0 ≤ x5 then ((bA.f k ((eP x4 x5).f0)).bind fun t234 => (if x3.length < 8796093022208 then (cy.l0 k (x3 ++ [t234]) x4 (wrap64 (x5 + 1))) else (none))) else (none)) else (some x3)
def cy.f (k : Nat) (a0 : ByteArray) : Option (List ByteArray) := (aZ.f k a0).bind fun t230 => (cy.l0 k (([] : List ByteArray)) t230 0)
theorem cy.calls (k : Nat) (a0 : ByteArray) (r : List ByteArray) (w : World) (h : cy.f k a0 = some r) :
  Calls Tryz.prog 141 #[.string a0] w fun e w' => ∃ v0_ : Value, e = .returned (v0_) ∧ Kd.R Kd.string 9 w' w.heap.size (fun _ => True) v0_ r ∧ Below w.heap.size w w' := by
 have HB := am_ (Below.refl w.heap.size w); have H := h; clear h; unfold cy.f at H
 obtain ⟨y227, hy227⟩ : ∃ y_ : List ByteArray, y_ = (([] : List ByteArray)) := ⟨_, rfl⟩; replace H : ((aZ.f k a0).bind fun t230 => (cy.l0 k y227 t230 0)) = some r := by first | (rw [hy227]; with_reducible exact H) | (have H2_ := (Option.bind_some _ _).symm.trans H; rw [hy227]; with_reducible exact H2_) | (have H2_ := (Option.bind_some _ _).symm.trans H; with_reducible exact H2_) | with_reducible exact H | (rw [hy227]; exact H) | exact H
 have Ny227 := am_ hy227; clear hy227; obtain ⟨t230, A2, H⟩ := bi_ H; have H' := am_ H; clear H; go_enter Tryz.func141, Tryz.ntmps141
 go_wp2_with (first | ((with_reducible refine az (N := 6) rfl ?_); refine Kd.R_lit Kd.string _ 9 ?hg (N := 6) ?hd (xs := ([] : List ByteArray)) (inner := []) (ok := fun _ => True) (okp := fun _ => True) ?hr ?hp (fun _ hk => hk) trivial (Below.refl _ _) (Nat.le_refl _) cN ?_; (case hd => rfl); (case hg => rfl); (case hr => exact u6_); (case hp => exact gt); intro v228 w3 ho4 hb hg_ hnew_; clear hg_ hnew_; (first | rw [← Ny227.out] at ho4 | (simp only [Int.reduceToNat] at ho4; rw [← Ny227.out] at ho4)); have HO229 := am_ (Kd.R_lower ho4 (av (bw_ HB))); replace HB := bs_ HB hb; clear hb ho4) | ((with_reducible refine gt_ 8 ?_); refine gf_ 8 Tryz.func161 (aZ.calls k a0 t230 _ A2.out) ?_; rintro e w5 ⟨v231, rfl, ho0, hb⟩; refine ⟨_, rfl, ?_⟩; replace HO229 := am_ (Kd.R_below (aR_ HO229.out) hb); have HO232 := am_ (Kd.R_lower ho0 (av (bw_ HB))); replace HB := bs_ HB hb; (try clear hb); (try clear ho0)))
 go_loopg [3, 5] k (fun kq v3 v5 w' => ∃ (x3_1 : List ByteArray) (x5_1 : Int), v5 = .int .i64 x5_1 ∧ aa (cy.l0 kq x3_1 t230 x5_1 = some r) ∧ aa (kq ≤ k) ∧ aa (Kd.R Kd.string 9 w' w.heap.size (fun _ => True) v3 x3_1) ∧ aa (Kd.R k90 90 w' w.heap.size (fun _ => True) v231 t230) ∧ aa (Below w.heap.size w w'))
 case atStart => exact ⟨(y227), (0), u1_, H', ⟨Nat.le_refl _⟩, ⟨aR_ HO229.out⟩, ⟨aR_ HO232.out⟩, ⟨bw_ HB⟩⟩
 case round =>
  clear H'; obtain ⟨x3_1, x5_1, rfl, HA, HK1, HO_3, HO_4, HB⟩ := hrel; cases gk with
  | zero => exact absurd HA.out (by simp [cy.l0])
  | succ k1 =>
   have H := HA.out; clear HA; simp only [cy.l0] at H; by_cases c6 : x5_1 < (t230.length : Int)
   ·rw [if_pos c6] at H; have c6b0 := decide_eq_true c6; clear c6; obtain ⟨c7b0, H⟩ := gd_ H; obtain ⟨t234, A8, H⟩ := bi_ H; obtain ⟨LMc9, H⟩ := gl_ H; generalize hy235 : ((x3_1 ++ [t234]) : List ByteArray) = y235 at H; have Ny235 := am_ hy235.symm; clear hy235; have H' := am_ H; clear H; obtain ⟨Ao10, co10, eo10⟩ := Kd.R_slice HO_4.out; subst eo10; obtain ⟨ad233, e233, hx233_0, hx233_1, hx233_2⟩ := rk (Kd.R_reads' HO_4.out).2.2 x5_1 od_ od_; cases e233; obtain ⟨p233, q233⟩ := pt_ x5_1 t230.length; go_wp2_with (first | ((with_reducible refine gt_ 21 ?_); refine gB_ 21 Tryz.func47 (bA.calls k1 ((eP t230 x5_1).f0) t234 _ A8.out) ?_; intro w11 hb; replace HO_3 := am_ (Kd.R_below (aR_ HO_3.out) hb); replace HO_4 := am_ (Kd.R_below (aR_ HO_4.out) hb); replace HB := bs_ HB hb; (try clear hb)) | ((with_reducible refine bM (b := .append) (xs := #[.tmp 15, .tmp 22]) rfl ?_); at_builtin; refine Kd.R_append Kd.string (w0 := w) w.heap.size rfl (.tmp 15) (.tmp 22) 30 9 (.string ⟨#[]⟩) 16 rfl Tryz.underlying30 eD rfl bs u7_ u3 x3_1 t234 [.string t234] (fun _ => True) (fun _ => False) rfl rfl ?aP (fun _ hk => hk.elim) ?aF ?aO ?aB ?aS ?aL ?_; (case aP => exact rfl); (case aB => exact fG); (case aF => exact j4); (case aO => exact om); (case aS => exact fH); (case aL => have := LMc9.out; omega); intro v236 w12 ho hb hg hat; rw [← Ny235.out] at ho; replace HO_4 := am_ (Kd.R_over' (aR_ HO_4.out) (Kd.R_typed (aR_ HO_3.out)) bs hg); replace HB := am_ (hb); have HO237 := am_ (ho); clear HO_3 ho hb hg hat))
    go_roundg k1
    case measure => have := HK1.out; omega
    case rel => exact ⟨(y235), (wrap64 (x5_1 + 1)), u1_, H', ⟨dc⟩, ⟨aR_ HO237.out⟩, ⟨aR_ HO_4.out⟩, ⟨bw_ HB⟩⟩
   ·rw [if_neg c6] at H; have c6b0 := decide_eq_false c6; clear c6; obtain rfl := si_ H; obtain ⟨Ao13, co13, eo13⟩ := Kd.R_slice HO_4.out; subst eo13; go_wp2; go_ret
    exact ⟨_, u0_, aR_ HO_3.out, bw_ HB⟩
end Go.Proofs.YtnjjdojonflckaaGreatDoor.PFnExactIndexTerms
