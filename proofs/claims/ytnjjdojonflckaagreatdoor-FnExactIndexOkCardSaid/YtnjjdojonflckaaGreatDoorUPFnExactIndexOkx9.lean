/- Contracts of Go functions, each told as a plain Lean function. -/
import Derived.Test.YtnjjdojonflckaaGreatDoorUPFnExactIndexOkx5
namespace Go.Proofs.YtnjjdojonflckaaGreatDoor.PFnExactIndexOk
open Go.RowKit Go.Proofs.YtnjjdojonflckaaGreatDoorW.PrintWords Go.Proofs.YtnjjdojonflckaaGreatDoorW.PrintLast Go.Proofs.YtnjjdojonflckaaGreatDoorW.PrintMore
attribute [local go_sem] bH bF cm cn cK cI b5 b4 ck cl
set_option linter.unusedVariables false
set_option linter.unusedSimpArgs false
set_option maxHeartbeats 8000000
set_option maxRecDepth 100000
def ba.l0 : Nat → List (S92) → Int → ByteArray → List (S86) → Option (Bool)
 | 0, _, _, _, _ => none
 | k + 1, x0, x5, x206000, x206001 => if x5 < (x206001.length : Int) then (if 0 ≤ x5 then ((aV.f k x0 ((ak x206001 x5).f0)).bind fun t209 => (if t209 < 0 then (some false) else (if 0 ≤ t209 then (if t209 < (x0.length : Int) then ((dy.f k ((ar x0 t209).f0) ((ar x0 t209).f1) ((ar x0 t209).f2) ((ak x206001 x5).f1)).bind fun t212 => (if t212 = true then (ba.l0 k x0 (wrap64 (x5 + 1)) x206000 x206001) else (some false))) else (none)) else (none)))) else (none)) else ((ap.f k x0).bind fun t206 => (if t206 = true then ((aJ.f k x206000 x206001).bind fun t207 => (some t207)) else (some false)))
def ba.f (k : Nat) (l0 : List (S92)) (a1_0 : ByteArray) (l1_1 : List (S86)) : Option (Bool) := ba.l0 k l0 0 a1_0 l1_1
theorem ba.mono_l : ∀ k, M4 ba.l0 k
 | 0 => ⟨cU⟩
 | k + 1 => by have _ := ba.mono_l k; exact ⟨by intros; unfold ba.l0; exact mo_⟩
instance ba.mono (k : Nat) : M3 ba.f k := ⟨by have _ := ba.mono_l k; intros; unfold ba.f; exact mo_⟩
def ba.T5 : Bool × List (List Nat × List Nat) := (true, [([], []), ([0], [0]), ([1], [1]), ([2], [2]), ([2], [2]), ([3, 4, 2], [2, 3, 4]), ([5, 2], [2, 5]), ([2], [2]), ([7, 2], [2, 7]), ([2], [2]), ([8, 9, 2], [2, 8, 9]), ([10, 2], [2, 10]), ([11, 2], [2, 11]), ([6, 12, 2, 2], [2, 6, 12]), ([13, 2], [2, 13]), ([2, 14], [2, 14])])
def ba.B5 : List Nat := [0, 1, 3, 7, 7, 31, 63, 7, 135, 7, 903, 1927, 3975, 8191, 16383, 32767]
theorem ba.tab5 : dM .any (fS Tryz.f50 5) = ba.T5 := by kernel_rfl
theorem ba.bits5 : dt ba.T5.2 ba.B5 = true := by kernel_rfl
theorem ba.calls (k : Nat) (A0 : Option Addr) (c0 : Nat) (l0 : List (S92)) (a1_0 : ByteArray) (A1_1 : Option Addr) (c1_1 : Nat) (l1_1 : List (S86)) (r : Bool) (w : World) (hr0 : Kd.C k92 w A0 l0.length l0) (hc0 : l0.length ≤ c0) (hr1_1 : Kd.C k86 w A1_1 l1_1.length l1_1) (hc1_1 : l1_1.length ≤ c1_1) (h : ba.f k l0 a1_0 l1_1 = some r) :
  Calls Tryz.prog 50 #[.slice A0 l0.length c0, .agg #[.string a1_0, .slice A1_1 l1_1.length c1_1]] w fun e w' => e = .returned (.bool r) ∧ Below w.heap.size w w' := by
 have hu44 := Tryz.underlying44; have hu92 := Tryz.underlying92; have HR0 := am_ hr0; have HC0 := am_ hc0; clear hr0 hc0; have HR1_1 := am_ hr1_1; have HC1_1 := am_ hc1_1; clear hr1_1 hc1_1; have HB := am_ (Below.refl w.heap.size w); have H := h; clear h; unfold ba.f at H
 have H' := am_ H; clear H; go_enter Tryz.func50, Tryz.ntmps50
 go_wp2_with (first | (with_reducible refine gt_ 3 ?_; refine bx_ 3 #[.string a1_0, .slice A1_1 l1_1.length c1_1] 44 ?_; intro gb205 hg w3 hbox hb; have BK205 := am_ (hbox); have GE205 := gw_ HB hg; replace HB := bs_ HB hb; clear hb hbox hg))
 go_loopg [5] k (fun kq v5 w' => ∃ (x5_1 : Int), v5 = .int .i64 x5_1 ∧ aa (ba.l0 kq l0 x5_1 a1_0 l1_1 = some r) ∧ aa (kq ≤ k) ∧ aa (w'.heap[gb205]? = some (.cells #[.string a1_0, (.slice A1_1 l1_1.length c1_1)] 44 (0, 0))) ∧ aa (Below w.heap.size w w'))
 case atStart => exact ⟨(0), u1_, H', ⟨Nat.le_refl _⟩, ⟨u65_⟩, ⟨bw_ HB⟩⟩
 case round =>
  clear H'; obtain ⟨x5_1, rfl, HA, HK1, BK205, HB⟩ := hrel; cases gk with
  | zero => exact absurd HA.out (by simp [ba.l0])
  | succ k1 =>
   have H := HA.out; clear HA; simp only [ba.l0] at H; by_cases c4 : x5_1 < (l1_1.length : Int)
   ·rw [if_pos c4] at H; have c4b0 := decide_eq_true c4; clear c4; obtain ⟨c5b0, H⟩ := gd_ H; obtain ⟨t209, A6, H⟩ := bi_ H; by_cases c7 : t209 < 0
    ·rw [if_pos c7] at H; have c7b0 := decide_eq_true c7; clear c7; obtain rfl := si_ H; obtain ⟨hcz8_0, hcz8_1, hfz8_0, hfz8_1⟩ := bW BK205.out; obtain ⟨ad208, e208, hx208_0, hx208_1⟩ := cz HR1_1.out x5_1 od_ od_; cases e208; replace hx208_0 := cb_ HB hx208_0; replace hx208_1 := cb_ HB hx208_1; obtain ⟨p208, q208⟩ := pt_ x5_1 l1_1.length; try go_wp2_with (first | ((with_reducible refine gt_ 21 ?_); refine gD_ 21 Tryz.func96 (aV.calls k1 _ _ l0 ((ak l1_1 x5_1).f0) t209 _ (kc_ HR0 HB) HC0.out A6.out) ?_; intro nd))
     (try (rw [kp wr]; generalize hq_ : World.drewN wr _ = wr; have n0_ : aa (wr.heap[gb205]? = some (.cells #[.string a1_0, .slice (some ad208) l1_1.length c1_1] 44 (0, 0))) := ⟨by rw [← hq_]; exact u65_⟩; have n1_ : aa (Below w.heap.size w wr) := ⟨by rw [← hq_]; exact (bw_ HB)⟩; clear BK205 HB hq_; have BK205 := n0_; have HB := n1_; clear n0_ n1_))
     replace BK205 := am_ (ac BK205.out); replace HB := am_ (bg HB.out); refine cT (n := 16) (S := fun w' => True) (ds := []) (bm_ 16 0) ch rfl rfl trivial (fun hHeld => ?_); refine bO ba.tab5 ba.bits5 (fun HT_ HW_ => ?_); generalize wr.drew = w9 at BK205 HB hHeld ⊢; refine pv_ 0 22 ?_; refine pv_ 1 23 ?_; refine pv_ 2 24 ?_; refine sv_ 3 25 ?_; refine sv_ 4 26 ?_; refine sv_ 5 27 ?_; refine sv_ 6 28 ?_; refine sv_ 7 29 ?_; refine sv_ 8 30 ?_; refine sv_ 9 31 ?_; refine sv_ 10 32 ?_; refine sv_ 11 33 ?_; refine sv_ 12 34 ?_; refine sv_ 13 35 ?_; refine sv_ 14 36 ?_; refine pv_ 15 37 ?_; refine dn_ HT_ ?_; try go_wp2
     go_ret
     exact ⟨u0_, bw_ HB⟩
    ·rw [if_neg c7] at H; have c7b0 := decide_eq_false c7; clear c7; obtain ⟨c10b0, H⟩ := gd_ H; obtain ⟨c11b0, H⟩ := gd_ H; obtain ⟨t212, A12, H⟩ := bi_ H; have HC_ := am_ H; clear H; obtain ⟨hcz17_0, hcz17_1, hfz17_0, hfz17_1⟩ := bW BK205.out; obtain ⟨ad208, e208, hx208_0, hx208_1⟩ := cz HR1_1.out x5_1 od_ od_; cases e208; replace hx208_0 := cb_ HB hx208_0; replace hx208_1 := cb_ HB hx208_1; obtain ⟨p208, q208⟩ := pt_ x5_1 l1_1.length; try go_wp2_with (first | ((with_reducible refine gt_ 21 ?_); refine gD_ 21 Tryz.func96 (aV.calls k1 _ _ l0 ((ak l1_1 x5_1).f0) t209 _ (kc_ HR0 HB) HC0.out A6.out) ?_; intro nd))
     (try (rw [kp wr]; generalize hq_ : World.drewN wr _ = wr; have n0_ : aa (wr.heap[gb205]? = some (.cells #[.string a1_0, .slice (some ad208) l1_1.length c1_1] 44 (0, 0))) := ⟨by rw [← hq_]; exact u65_⟩; have n1_ : aa (Below w.heap.size w wr) := ⟨by rw [← hq_]; exact (bw_ HB)⟩; clear BK205 HB hq_; have BK205 := n0_; have HB := n1_; clear n0_ n1_))
     replace BK205 := am_ (ac BK205.out); replace HB := am_ (bg HB.out); obtain ⟨ad210, e210, hx210_0, hx210_1, hx210_2⟩ := fJ HR0.out t209 od_ od_; have hw210_2 := hx210_2; have hw210_1 := hx210_1; have hw210_0 := hx210_0; cases e210; replace hx210_0 := cb_ HB hx210_0; replace hx210_1 := cb_ HB hx210_1; replace hx210_2 := cb_ HB hx210_2; obtain ⟨p210, q210⟩ := pt_ t209 l0.length; obtain ⟨ad211, e211, hx211_0, hx211_1⟩ := cz HR1_1.out x5_1 od_ od_; have hw211_1 := hx211_1; have hw211_0 := hx211_0; obtain rfl : ad208 = ad211 := (by injection e211); replace hx211_0 := cb_ HB hx211_0; replace hx211_1 := cb_ HB hx211_1; obtain ⟨p211, q211⟩ := pt_ x5_1 l1_1.length; refine cT (n := 16) (S := fun w' => w'.cell? ⟨gb205, 0, none⟩ = some (.string a1_0) ∧ w'.cell? ⟨gb205, 1, none⟩ = some (.slice (some ad208) l1_1.length c1_1) ∧ w'.cell? (ad210.add ((t209).toNat * 3)) = some (.string ((ar l0 t209).f0)) ∧ w'.cell? ⟨(ad210.add ((t209).toNat * 3)).block, (ad210.add ((t209).toNat * 3)).off + 1, none⟩ = some (.int .i64 ((ar l0 t209).f1)) ∧ w'.cell? ⟨(ad210.add ((t209).toNat * 3)).block, (ad210.add ((t209).toNat * 3)).off + 2, none⟩ = some (.int .i64 ((ar l0 t209).f2)) ∧ w'.cell? (ad208.add ((x5_1).toNat * 2)) = some (.string ((ak l1_1 x5_1).f0)) ∧ w'.cell? ⟨(ad208.add ((x5_1).toNat * 2)).block, (ad208.add ((x5_1).toNat * 2)).off + 1, none⟩ = some (.string ((ak l1_1 x5_1).f1))) (ds := []) (bm_ 16 0) ch rfl rfl ⟨bc_ BK205 0, bc_ BK205 1, (cc_ HB hw210_0), (cc_ HB hw210_1), (cc_ HB hw210_2), (cc_ HB hw211_0), (cc_ HB hw211_1)⟩ (fun hHeld => ?_); refine bO ba.tab5 ba.bits5 (fun HT_ HW_ => ?_); generalize wr.drew = w18 at BK205 HB hx210_0 hx210_1 hx210_2 hx211_0 hx211_1 hHeld ⊢; refine pv_ 0 22 ?_; refine pv_ 1 23 ?_; refine pv_ 2 24 ?_; refine pv_ 3 25 ?_; refine pv_ 4 26 ?_; refine pv_ 5 27 ?_; refine pv_ 7 29 ?_; refine pv_ 9 31 ?_; refine tv_ 6 28 ?_; refine tv_ 8 30 ?_; refine pv_ 10 32 ?_; refine pv_ 11 33 ?_; refine tv_ 12 34 ?_; refine ov_ 13 35 (fun K hK => ?_); refine oB_ Tryz.func97 (dy.calls k1 ((ar l0 t209).f0) ((ar l0 t209).f1) ((ar l0 t209).f2) ((ak l1_1 x5_1).f1) t212 _ A12.out) ?_; intro w19 hb; replace BK205 := bb_ BK205 hb; replace HB := bs_ HB hb; (try clear hb)
     refine hK.out _ _ ⟨bc_ BK205 0, bc_ BK205 1, (cc_ HB hw210_0), (cc_ HB hw210_1), (cc_ HB hw210_2), (cc_ HB hw211_0), (cc_ HB hw211_1)⟩ (fun hHeld => ?_); clear hK K; refine nm_ ?_; refine pv_ 14 36 ?_; refine pv_ 15 37 ?_; refine dn_ HT_ ?_; have H := HC_.out; clear HC_; cases t212
     ·replace H := hf_ H; obtain rfl := si_ H; try go_wp2
      go_ret
      exact ⟨u0_, bw_ HB⟩
     ·replace H := ht_ H; have H' := am_ H; clear H; try go_wp2
      go_roundg k1
      case measure => have := HK1.out; omega
      case rel => exact ⟨(wrap64 (x5_1 + 1)), u1_, H', ⟨du⟩, ⟨u65_⟩, ⟨bw_ HB⟩⟩
   ·rw [if_neg c4] at H; have c4b0 := decide_eq_false c4; clear c4; obtain ⟨t206, A20, H⟩ := bi_ H; cases t206
    ·replace H := hf_ H; obtain rfl := si_ H; obtain ⟨hcz27_0, hcz27_1, hfz27_0, hfz27_1⟩ := bW BK205.out; go_wp2_with (first | ((with_reducible refine gt_ 39 ?_); refine gB_ 39 Tryz.func53 (ap.calls k1 _ _ l0 false _ (kc_ HR0 HB) HC0.out A20.out) ?_; intro w28 hb; replace BK205 := bb_ BK205 hb; replace HB := bs_ HB hb; (try clear hb)))
     go_ret
     exact ⟨u0_, bw_ HB⟩
    ·replace H := ht_ H; obtain ⟨t207, A22, H⟩ := bi_ H; obtain rfl := si_ H; obtain ⟨hcz23_0, hcz23_1, hfz23_0, hfz23_1⟩ := bW BK205.out; go_wp2_with (first | ((with_reducible refine gt_ 39 ?_); refine gB_ 39 Tryz.func53 (ap.calls k1 _ _ l0 true _ (kc_ HR0 HB) HC0.out A20.out) ?_; intro w24 hb; replace BK205 := bb_ BK205 hb; replace HB := bs_ HB hb; (try clear hb); obtain ⟨hcz25_0, hcz25_1, hfz25_0, hfz25_1⟩ := bW BK205.out) | (go_at_call 98; (with_reducible refine (aJ.calls k1 a1_0 _ _ l1_1 t207 _ (kc_ HR1_1 HB) HC1_1.out A22.out).mono ?_); rintro e w26 ⟨rfl, hb⟩; replace BK205 := bb_ BK205 hb; replace HB := bs_ HB hb; (try clear hb)))
     go_ret
     exact ⟨u0_, bw_ HB⟩
def bK.l0 : Nat → List (S46) → ByteArray → Int → Option (Int)
 | 0, _, _, _ => none
 | k + 1, x0, x1, x5 => if x5 < (x0.length : Int) then (if 0 ≤ x5 then (if ((ab x0 x5).f1.f0).toList = x1.toList then (some x5) else (bK.l0 k x0 x1 (wrap64 (x5 + 1)))) else (none)) else (some (-1))
def bK.f (k : Nat) (l0 : List (S46)) (a1 : ByteArray) : Option (Int) := bK.l0 k l0 a1 0
theorem bK.mono_l : ∀ k, M3 bK.l0 k
 | 0 => ⟨cU⟩
 | k + 1 => by have _ := bK.mono_l k; exact ⟨by intros; unfold bK.l0; exact mo_⟩
instance bK.mono (k : Nat) : M2 bK.f k := ⟨by have _ := bK.mono_l k; intros; unfold bK.f; exact mo_⟩
theorem bK.calls (k : Nat) (A0 : Option Addr) (c0 : Nat) (l0 : List (S46)) (a1 : ByteArray) (r : Int) (w : World) (hr0 : Kd.C k46 w A0 l0.length l0) (hc0 : l0.length ≤ c0) (h : bK.f k l0 a1 = some r) :
  Calls Tryz.prog 51 #[.slice A0 l0.length c0, .string a1] w fun e w' => e = .returned (.int .i64 r) ∧ Drawn0 w w' := by
 have HR0 := am_ hr0; have HC0 := am_ hc0; clear hr0 hc0; have H := h; clear h; unfold bK.f at H
 have H' := am_ H; clear H; go_enter Tryz.func51, Tryz.ntmps51
 go_wp2; go_loopg [5] k (fun kq v5 w' => ∃ (x5_1 : Int), v5 = .int .i64 x5_1 ∧ aa (bK.l0 kq l0 a1 x5_1 = some r) ∧ aa (kq ≤ k) ∧ Drawn0 w w')
 case atStart => exact ⟨(0), u1_, H', ⟨Nat.le_refl _⟩, u3_⟩
 case round =>
  clear H'; obtain ⟨x5_1, rfl, HA, HK1, ⟨m1, rfl⟩⟩ := hrel; cases gk with
  | zero => exact absurd HA.out (by simp [bK.l0])
  | succ k1 =>
   have H := HA.out; clear HA; simp only [bK.l0] at H; by_cases c3 : x5_1 < (l0.length : Int)
   ·rw [if_pos c3] at H; have c3b0 := decide_eq_true c3; clear c3; obtain ⟨c4b0, H⟩ := gd_ H; by_cases c5 : ((ab l0 x5_1).f1.f0).toList = a1.toList
    ·rw [if_pos c5] at H; have c5b0 := db c5; have c5b1 := dd c5; clear c5; obtain rfl := si_ H; obtain ⟨ad213, A213_2, c213_2, e213, hx213_0, hx213_1, hx213_2, hl213_2, hi213_2⟩ := dG HR0.out x5_1 od_ od_; cases e213; have HR213_2 := am_ hi213_2; have HC213_2 := am_ hl213_2; clear hi213_2 hl213_2; obtain ⟨p213, q213⟩ := pt_ x5_1 l0.length; go_wp2; go_ret
     exact ⟨u4_, u3_⟩
    ·rw [if_neg c5] at H; have c5b0 := da c5; have c5b1 := dc c5; have H' := am_ H; clear H; obtain ⟨ad213, A213_2, c213_2, e213, hx213_0, hx213_1, hx213_2, hl213_2, hi213_2⟩ := dG HR0.out x5_1 od_ od_; cases e213; have HR213_2 := am_ hi213_2; have HC213_2 := am_ hl213_2; clear hi213_2 hl213_2; obtain ⟨p213, q213⟩ := pt_ x5_1 l0.length; go_wp2; go_roundg k1
     case measure => have := HK1.out; omega
     case rel => exact ⟨(wrap64 (x5_1 + 1)), u1_, H', ⟨du⟩, u3_⟩
   ·rw [if_neg c3] at H; have c3b0 := decide_eq_false c3; clear c3; obtain rfl := si_ H; go_wp2; go_ret
    exact ⟨u4_, u3_⟩
def bJ.l0 : Nat → List Int → List Int → Int → Option (Bool)
 | 0, _, _, _ => none
 | k + 1, x0, x1, x5 => if x5 < (x0.length : Int) then (if 0 ≤ x5 then (if x5 < (x1.length : Int) then (if (rd x0 x5) = (rd x1 x5) then (bJ.l0 k x0 x1 (wrap64 (x5 + 1))) else (some false)) else (none)) else (none)) else (some true)
def bJ.f (k : Nat) (l0 : List Int) (l1 : List Int) : Option (Bool) := if (l0.length : Int) = (l1.length : Int) then (bJ.l0 k l0 l1 0) else (some false)
theorem bJ.mono_l : ∀ k, M3 bJ.l0 k
 | 0 => ⟨cU⟩
 | k + 1 => by have _ := bJ.mono_l k; exact ⟨by intros; unfold bJ.l0; exact mo_⟩
instance bJ.mono (k : Nat) : M2 bJ.f k := ⟨by have _ := bJ.mono_l k; intros; unfold bJ.f; exact mo_⟩
theorem bJ.calls (k : Nat) (A0 : Option Addr) (c0 : Nat) (l0 : List Int) (A1 : Option Addr) (c1 : Nat) (l1 : List Int) (r : Bool) (w : World) (hr0 : Kd.C (Kd.int .i64) w A0 l0.length l0) (hc0 : l0.length ≤ c0) (hr1 : Kd.C (Kd.int .i64) w A1 l1.length l1) (hc1 : l1.length ≤ c1) (h : bJ.f k l0 l1 = some r) :
  Calls Tryz.prog 100 #[.slice A0 l0.length c0, .slice A1 l1.length c1] w fun e w' => e = .returned (.bool r) ∧ Drawn0 w w' := by
 have HR0 := am_ hr0; have HC0 := am_ hc0; clear hr0 hc0; have HR1 := am_ hr1; have HC1 := am_ hc1; clear hr1 hc1; have H := h; clear h; unfold bJ.f at H
 by_cases c3 : (l0.length : Int) = (l1.length : Int)
 ·rw [if_pos c3] at H; have c3b0 := db c3; have c3b1 := dd c3; have c3b2 : (l0.length == l1.length) = true := by first | simpa using c3 | (simp at c3 ⊢; omega)
  clear c3; have H' := am_ H; clear H; go_enter Tryz.func100, Tryz.ntmps100
  go_wp2; repeat (go_quiet (fail); try go_wp2)
  go_loopg [5] k (fun kq v5 w' => ∃ (x5_1 : Int), v5 = .int .i64 x5_1 ∧ aa (bJ.l0 kq l0 l1 x5_1 = some r) ∧ aa (kq ≤ k) ∧ Drawn0 w w')
  case atStart => exact ⟨(0), u1_, H', ⟨Nat.le_refl _⟩, u3_⟩
  case round =>
   clear H'; try clear c1
   try clear c3
   try clear c3b0
   try clear c3b1
   try clear c3b2
   obtain ⟨x5_1, rfl, HA, HK1, ⟨m1, rfl⟩⟩ := hrel; cases gk with
   | zero => exact absurd HA.out (by simp [bJ.l0])
   | succ k1 =>
    have H := HA.out; clear HA; simp only [bJ.l0] at H; by_cases c4 : x5_1 < (l0.length : Int)
    ·rw [if_pos c4] at H; have c4b0 := decide_eq_true c4; clear c4; obtain ⟨c5b0, H⟩ := gd_ H; obtain ⟨c6b0, H⟩ := gd_ H; by_cases c7 : (rd l0 x5_1) = (rd l1 x5_1)
     ·rw [if_pos c7] at H; have c7b0 := db c7; have c7b1 := dd c7; clear c7; have H' := am_ H; clear H; obtain ⟨ad214, e214, hx214_0⟩ := Kd.at_int HR0.out x5_1 od_ od_; cases e214; obtain ⟨p214, q214⟩ := pt_ x5_1 l0.length; obtain ⟨ad215, e215, hx215_0⟩ := Kd.at_int HR1.out x5_1 od_ od_; cases e215; obtain ⟨p215, q215⟩ := pt_ x5_1 l1.length; go_wp2; repeat (go_quiet (fail); try go_wp2)
      go_roundg k1
      case measure => have := HK1.out; omega
      case rel => exact ⟨(wrap64 (x5_1 + 1)), u1_, H', ⟨du⟩, u3_⟩
     ·rw [if_neg c7] at H; have c7b0 := da c7; have c7b1 := dc c7; obtain rfl := si_ H; obtain ⟨ad214, e214, hx214_0⟩ := Kd.at_int HR0.out x5_1 od_ od_; cases e214; obtain ⟨p214, q214⟩ := pt_ x5_1 l0.length; obtain ⟨ad215, e215, hx215_0⟩ := Kd.at_int HR1.out x5_1 od_ od_; cases e215; obtain ⟨p215, q215⟩ := pt_ x5_1 l1.length; go_wp2; repeat (go_quiet (fail); try go_wp2)
      go_ret
      exact ⟨u4_, u3_⟩
    ·rw [if_neg c4] at H; have c4b0 := decide_eq_false c4; clear c4; obtain rfl := si_ H; go_wp2; repeat (go_quiet (fail); try go_wp2)
     go_ret
     exact ⟨u4_, u3_⟩
 ·rw [if_neg c3] at H; have c3b0 := da c3; have c3b1 := dc c3; have c3b2 : (l0.length == l1.length) = false := by first | simpa using c3 | (simp at c3 ⊢; omega)
  obtain rfl := si_ H; go_enter Tryz.func100, Tryz.ntmps100
  go_wp2; repeat (go_quiet (fail); try go_wp2)
  go_ret
  exact ⟨u4_, u3_⟩
section
open Go Go.RowKit Go.Proofs.YtnjjdojonflckaaGreatDoorW.PrintWords Go.Proofs.YtnjjdojonflckaaGreatDoorW.PrintLast Go.Proofs.YtnjjdojonflckaaGreatDoorW.PrintMore
def av.ps (k : Nat) : List S50 → List S50 → Option Bool
 | p :: ps, q :: qs => if p.f0 = q.f0 then (bJ.f k p.f1 q.f1).bind fun b => if b = true then av.ps k ps qs else some false else some false
 | _, _ => some true
def av.es (k : Nat) : List S76 → List S76 → Option Bool
 | x :: xs, y :: ys => if x.f0.toList = y.f0.toList then if x.f1.toList = y.f1.toList then if x.f2.length = y.f2.length then (av.ps k x.f2 y.f2).bind fun b => if b = true then av.es k xs ys else some false else some false else some false else some false
 | _, _ => some true
def av.f (k : Nat) (l0 l1 : List S76) : Option Bool := if l0.length = l1.length then av.es k l0 l1 else some false
theorem av.ps_mono (k : Nat) : ∀ a b, LeO (av.ps k a b) (av.ps (k + 1) a b)
 | p :: ps, q :: qs => by
  unfold av.ps
  exact LeO.ite (LeO.bind (M2.o _ _) (fun _ => LeO.ite (av.ps_mono k ps qs) (LeO.refl _))) (LeO.refl _)
 | [], _ => by unfold av.ps; exact LeO.refl _
 | _ :: _, [] => by unfold av.ps; exact LeO.refl _
theorem av.es_mono (k : Nat) : ∀ a b, LeO (av.es k a b) (av.es (k + 1) a b)
 | x :: xs, y :: ys => by
  unfold av.es
  exact LeO.ite (LeO.ite (LeO.ite (LeO.bind (av.ps_mono _ _ _) (fun _ => LeO.ite (av.es_mono k xs ys) (LeO.refl _))) (LeO.refl _)) (LeO.refl _)) (LeO.refl _)
 | [], _ => by unfold av.es; exact LeO.refl _
 | _ :: _, [] => by unfold av.es; exact LeO.refl _
theorem av.mono (a0 a1 : List S76) (k : Nat) : LeO (av.f k a0 a1) (av.f (k + 1) a0 a1) := by
 unfold av.f
 exact LeO.ite (av.es_mono _ _ _) (LeO.refl _)
instance (k : Nat) : M2 av.f k := ⟨fun a0 a1 => av.mono a0 a1 k⟩
theorem av.rd76 {xs : List S76} {i : Nat} (h : i < xs.length) : ax xs (i : Int) = xs[i] := by unfold ax; simp [List.getD_eq_getElem?_getD, List.getElem?_eq_getElem h]
theorem av.rd50 {xs : List S50} {i : Nat} (h : i < xs.length) : bm xs (i : Int) = xs[i] := by unfold bm; simp [List.getD_eq_getElem?_getD, List.getElem?_eq_getElem h]
theorem av.calls (k : Nat) (A0 : Option Addr) (c0 : Nat) (l0 : List (S76)) (A1 : Option Addr) (c1 : Nat) (l1 : List (S76)) (r : Bool) (w : World) (hr0 : Kd.C k76 w A0 l0.length l0) (hc0 : l0.length ≤ c0) (hr1 : Kd.C k76 w A1 l1.length l1) (hc1 : l1.length ≤ c1) (h : av.f k l0 l1 = some r) :
  Calls Tryz.prog 54 #[.slice A0 l0.length c0, .slice A1 l1.length c1] w fun e w' => e = .returned (.bool r) ∧ Below w.heap.size w w' := by
 have hlen := hr0.2.1; have HB := am_ (Below.refl w.heap.size w); have HR0 := am_ hr0; have HR1 := am_ hr1; unfold av.f at h
 clear hr0 hr1; by_cases hl : l0.length = l1.length
 ·rw [if_pos hl] at h; have H := am_ h; have HL := am_ hl; have hlb : ((l0.length : Int) != (l1.length : Int)) = false := by rw [hl]; simp
  clear h hl; go_enter Tryz.func54, Tryz.ntmps54
  go_wp2; go_loopw [5] (fun v5 wr => ∃ i : Nat, v5 = .int .i64 (i : Int) ∧ i ≤ l0.length ∧ aa (av.es k (l0.drop i) (l1.drop i) = some r) ∧ aa (Below w.heap.size w wr)) (fun v _ => match v with | .int _ i => l0.length - i.toNat | _ => 0)
  case atStart => exact ⟨0, rfl, Nat.zero_le _, H, HB⟩
  case round =>
   clear H HB; obtain ⟨i, rfl, hi, H, HB⟩ := hrel; rcases Nat.lt_or_ge i l0.length with hlt | hge
   ·have hlt1 : i < l1.length := by rw [← HL.out]; exact hlt
    obtain ⟨ad, Ap, cp, e, hx0, hx1, hx2, _, hpc⟩ := dT (Kd.C_below HR0.out HB.out) (i : Int) aA aA; obtain ⟨ae, Aq, cq, e', hy0, hy1, hy2, _, hqc⟩ := dT (Kd.C_below HR1.out HB.out) (i : Int) aA aA; subst e; subst e'; rw [av.rd76 hlt] at hx0 hx1 hx2 hpc; rw [av.rd76 hlt1] at hy0 hy1 hy2 hqc; simp only [Int.toNat_natCast] at hx0 hx1 hx2 hy0 hy1 hy2; have h := H.out; rw [List.drop_eq_getElem_cons hlt, List.drop_eq_getElem_cons hlt1, av.es] at h; generalize l0[i] = x at hx0 hx1 hx2 hpc h; generalize l1[i] = y at hy0 hy1 hy2 hqc h; have p1 : ((i : Int) < (l0.length : Int)) = True := eq_true aA; have p2 : ((i : Int) < (l1.length : Int)) = True := eq_true aA; have p0 : (0 ≤ (i : Int)) = True := eq_true aA; have hplen := hpc.2.1; have HPC := am_ hpc; have HQC := am_ hqc; clear hpc hqc H; by_cases h0 : x.f0.toList = y.f0.toList
    ·rw [if_pos h0] at h; have b0 : (x.f0.toList == y.f0.toList) = true := by simpa using h0
     have b0' : (x.f0.toList != y.f0.toList) = false := by simpa using h0
     by_cases h1 : x.f1.toList = y.f1.toList
     ·rw [if_pos h1] at h; have b1 : (x.f1.toList == y.f1.toList) = true := by simpa using h1
      have b1' : (x.f1.toList != y.f1.toList) = false := by simpa using h1
      by_cases h2 : x.f2.length = y.f2.length
      ·rw [if_pos h2] at h; have H2 := am_ h2; have H := am_ h; have b2 : ((x.f2.length : Int) != (y.f2.length : Int)) = false := by rw [h2]; simp
       clear h h0 h1 h2; go_wp2; go_quiet (fail)
       replace HB := am_ (aG HB.out nq); have HW : aa (Below wr.heap.size wr (wr.drewN nq)) := am_ (aG (Below.refl _ _) nq); generalize wr.drewN nq = w5 at HB HW ⊢; go_wp2; go_loopw [6] (fun v6 ws => ∃ j : Nat, v6 = .int .i64 (j : Int) ∧ j ≤ x.f2.length ∧ aa (((av.ps k (x.f2.drop j) (y.f2.drop j)).bind fun b => if b = true then av.es k (l0.drop (i + 1)) (l1.drop (i + 1)) else some false) = some r) ∧ aa (Below w.heap.size w ws) ∧ aa (Below wr.heap.size wr ws)) (fun v _ => match v with | .int _ j => x.f2.length - j.toNat | _ => 0)
       case atStart => exact ⟨0, rfl, Nat.zero_le _, H, HB, HW⟩
       case round =>
        clear H HB HW; obtain ⟨j, rfl, hj, H, HB, HW⟩ := hrel; have cx0 := aj HW.out hx0; have cx1 := aj HW.out hx1; have cx2 := aj HW.out hx2; have cy0 := aj HW.out hy0; have cy1 := aj HW.out hy1; have cy2 := aj HW.out hy2; have hj0 : (0 ≤ (j : Int)) = True := eq_true aA; rcases Nat.lt_or_ge j x.f2.length with hjl | hjg
        ·have hjl1 : j < y.f2.length := by rw [← H2.out]; exact hjl
         have q1 : ((j : Int) < (x.f2.length : Int)) = True := eq_true aA; have q2 : ((j : Int) < (y.f2.length : Int)) = True := eq_true aA; obtain ⟨af, Ai, ci, e, hu0, hu1, hui, huc⟩ := gm (Kd.C_below HPC.out HW.out) (j : Int) aA aA; subst e; obtain ⟨ag, Aj, cj, e, hv0, hv1, hvi, hvc⟩ := gm (Kd.C_below HQC.out HW.out) (j : Int) aA aA; subst e; rw [av.rd50 hjl] at hu0 hu1 hui huc; rw [av.rd50 hjl1] at hv0 hv1 hvi hvc; simp only [Int.toNat_natCast] at hu0 hu1 hv0 hv1; have h := H.out; rw [List.drop_eq_getElem_cons hjl, List.drop_eq_getElem_cons hjl1, av.ps] at h; generalize x.f2[j] = p at hu0 hu1 hui huc h; generalize y.f2[j] = q at hv0 hv1 hvi hvc h; by_cases hd : p.f0 = q.f0
         ·have hdb : (p.f0 != q.f0) = false := by rw [hd]; simp
          have hdb' : (p.f0 == q.f0) = true := by rw [hd]; simp
          rw [if_pos hd] at h; rw [Option.bind_assoc] at h; obtain ⟨b, hb, h⟩ := Option.bind_eq_some_iff.1 h; clear hd H; go_wp2; go_quiet ((go_at_call 100; exact Calls.quiet_of ((bJ.calls k _ _ _ _ _ _ b _ (Kd.C_drewN huc _) hui (Kd.C_drewN hvc _) hvi hb).mono fun e w' ⟨he, hw⟩ => ⟨he, hw.out⟩)))
          cases b with
          | true =>
           rw [if_pos rfl] at h; go_wp2; go_roundw
           case rel => exact ⟨j + 1, eY, hjl, ⟨h⟩, ⟨aG HB.out nq⟩, ⟨aG HW.out nq⟩⟩
           case measure => (simp; omega)
          | false =>
           simp at h
           obtain rfl := h; go_wp2; go_ret
           exact ⟨rfl, aG HB.out nq⟩
         ·rw [if_neg hd] at h; simp at h
          obtain rfl := h; have hdb : (p.f0 != q.f0) = true := bne_iff_ne.2 hd; have hdb' : (p.f0 == q.f0) = false := by simpa using hd
          clear hd H; go_wp2; go_quiet (fail)
          go_wp2; go_ret
          exact ⟨rfl, aG HB.out _⟩
        ·obtain rfl : j = x.f2.length := by omega
         have h := H.out; have q1 : (((x.f2.length : Nat) : Int) < (x.f2.length : Int)) = False := eq_false aA; rw [List.drop_eq_nil_of_le (Nat.le_refl _), av.ps] at h
         ·simp only [Option.bind_some, if_true] at h; clear H; go_wp2; go_roundw
          case rel => exact ⟨i + 1, eY, hlt, ⟨h⟩, HB⟩
          case measure => (simp; omega)
         ·intro _ _ _ _ he; cases he
      ·rw [if_neg h2] at h; obtain rfl := Option.some.inj h; have b2 : ((x.f2.length : Int) != (y.f2.length : Int)) = true := bne_iff_ne.2 aA; clear h h0 h1 h2; go_wp2; go_quiet (fail)
       go_wp2; go_ret
       exact ⟨rfl, aG HB.out _⟩
     ·rw [if_neg h1] at h; obtain rfl := Option.some.inj h; have b1 : (x.f1.toList == y.f1.toList) = false := by simpa using h1
      have b1' : (x.f1.toList != y.f1.toList) = true := by simpa using h1
      clear h h0 h1; go_wp2; go_quiet (fail)
      go_wp2; go_ret
      exact ⟨rfl, aG HB.out _⟩
    ·rw [if_neg h0] at h; obtain rfl := Option.some.inj h; have b0 : (x.f0.toList == y.f0.toList) = false := by simpa using h0
     have b0' : (x.f0.toList != y.f0.toList) = true := by simpa using h0
     clear h h0; go_wp2; go_quiet (fail)
     go_wp2; go_ret
     exact ⟨rfl, aG HB.out _⟩
   ·obtain rfl : i = l0.length := by omega
    have h := H.out; rw [List.drop_eq_nil_of_le (Nat.le_refl _), av.es] at h
    ·obtain rfl := Option.some.inj h; have p1 : (((l0.length : Nat) : Int) < (l0.length : Int)) = False := eq_false aA; clear h H; go_wp2; go_ret
     exact ⟨rfl, HB.out⟩
    ·intro _ _ _ _ he; cases he
 ·rw [if_neg hl] at h; obtain rfl := Option.some.inj h; have hlb : ((l0.length : Int) != (l1.length : Int)) = true := bne_iff_ne.2 aA; clear h hl; go_enter Tryz.func54, Tryz.ntmps54
  go_wp2; go_ret
  exact ⟨rfl, HB.out⟩
end
def bw.l0 : Nat → List (S76) → ByteArray → ByteArray → Int → Option (Int × Bool)
 | 0, _, _, _, _ => none
 | k + 1, x0, x1, x2, x8 => if x8 < (x0.length : Int) then (if 0 ≤ x8 then (if (Op.bytesLess (((ax x0 x8).f0).toList) x1.toList) = true then (bw.l0 k x0 x1 x2 (wrap64 (x8 + 1))) else (if ((ax x0 x8).f0).toList = x1.toList then (if (Op.bytesLess (((ax x0 x8).f1).toList) x2.toList) = true then (bw.l0 k x0 x1 x2 (wrap64 (x8 + 1))) else (some (x8, (((ax x0 x8).f1).toList == x2.toList)))) else (some (x8, false)))) else (none)) else (some (x8, false))
def bw.f (k : Nat) (l0 : List (S76)) (a1 : ByteArray) (a2 : ByteArray) : Option (Int × Bool) := bw.l0 k l0 a1 a2 0
theorem bw.mono_l : ∀ k, M4 bw.l0 k
 | 0 => ⟨cU⟩
 | k + 1 => by have _ := bw.mono_l k; exact ⟨by intros; unfold bw.l0; exact mo_⟩
instance bw.mono (k : Nat) : M3 bw.f k := ⟨by have _ := bw.mono_l k; intros; unfold bw.f; exact mo_⟩
theorem bw.calls (k : Nat) (A0 : Option Addr) (c0 : Nat) (l0 : List (S76)) (a1 : ByteArray) (a2 : ByteArray) (r1 : Int) (r2 : Bool) (w : World) (hr0 : Kd.C k76 w A0 l0.length l0) (hc0 : l0.length ≤ c0) (h : bw.f k l0 a1 a2 = some (r1, r2)) :
  Calls Tryz.prog 95 #[.slice A0 l0.length c0, .string a1, .string a2] w fun e w' => e = .returned (.tuple #[.int .i64 r1, .bool r2]) ∧ Drawn0 w w' := by
 have HR0 := am_ hr0; have HC0 := am_ hc0; clear hr0 hc0; have H := h; clear h; unfold bw.f at H
 have H' := am_ H; clear H; go_enter Tryz.func95, Tryz.ntmps95
 go_wp2; repeat (go_quiet (fail); try go_wp2)
 go_loopg [8] k (fun kq v8 w' => ∃ (x8_1 : Int), v8 = .int .i64 x8_1 ∧ aa (bw.l0 kq l0 a1 a2 x8_1 = some (r1, r2)) ∧ aa (kq ≤ k) ∧ Drawn0 w w')
 case atStart => exact ⟨(0), u1_, H', ⟨Nat.le_refl _⟩, u3_⟩
 case round =>
  clear H'; obtain ⟨x8_1, rfl, HA, HK1, ⟨m1, rfl⟩⟩ := hrel; cases gk with
  | zero => exact absurd HA.out (by simp [bw.l0])
  | succ k1 =>
   have H := HA.out; clear HA; simp only [bw.l0] at H; by_cases c4 : x8_1 < (l0.length : Int)
   ·rw [if_pos c4] at H; have c4b0 := decide_eq_true c4; clear c4; obtain ⟨c5b0, H⟩ := gd_ H; by_cases c6 : (Op.bytesLess (((ax l0 x8_1).f0).toList) a1.toList) = true
    ·rw [if_pos c6] at H; have c6b0 : (Op.bytesLess (((ax l0 x8_1).f0).toList) a1.toList) = true := c6; clear c6; have H' := am_ H; clear H; obtain ⟨ad216, A216_2, c216_2, e216, hx216_0, hx216_1, hx216_2, hl216_2, hi216_2⟩ := dT HR0.out x8_1 od_ od_; cases e216; have HR216_2 := am_ hi216_2; have HC216_2 := am_ hl216_2; clear hi216_2 hl216_2; obtain ⟨p216, q216⟩ := pt_ x8_1 l0.length; go_wp2; repeat (go_quiet (fail); try go_wp2)
     go_roundg k1
     case measure => have := HK1.out; omega
     case rel => exact ⟨(wrap64 (x8_1 + 1)), u1_, H', ⟨du⟩, u3_⟩
    ·rw [if_neg c6] at H; have c6b0 : (Op.bytesLess (((ax l0 x8_1).f0).toList) a1.toList) = false := by simpa using c6
     clear c6; by_cases c7 : ((ax l0 x8_1).f0).toList = a1.toList
     ·rw [if_pos c7] at H; have c7b0 := db c7; have c7b1 := dd c7; clear c7; by_cases c8 : (Op.bytesLess (((ax l0 x8_1).f1).toList) a2.toList) = true
      ·rw [if_pos c8] at H; have c8b0 : (Op.bytesLess (((ax l0 x8_1).f1).toList) a2.toList) = true := c8; clear c8; have H' := am_ H; clear H; obtain ⟨ad216, A216_2, c216_2, e216, hx216_0, hx216_1, hx216_2, hl216_2, hi216_2⟩ := dT HR0.out x8_1 od_ od_; cases e216; have HR216_2 := am_ hi216_2; have HC216_2 := am_ hl216_2; clear hi216_2 hl216_2; obtain ⟨p216, q216⟩ := pt_ x8_1 l0.length; obtain ⟨ad217, A217_2, c217_2, e217, hx217_0, hx217_1, hx217_2, hl217_2, hi217_2⟩ := dT HR0.out x8_1 od_ od_; obtain rfl : ad216 = ad217 := (by injection e217); have HR217_2 := am_ hi217_2; have HC217_2 := am_ hl217_2; clear hi217_2 hl217_2; obtain ⟨p217, q217⟩ := pt_ x8_1 l0.length; have ea_ := Option.some.inj (hx216_2.symm.trans hx217_2); injection ea_ with ea_ en_ ec_
       subst ea_; subst ec_; clear en_; obtain ⟨ad218, A218_2, c218_2, e218, hx218_0, hx218_1, hx218_2, hl218_2, hi218_2⟩ := dT HR0.out x8_1 od_ od_; obtain rfl : ad216 = ad218 := (by injection e218); have HR218_2 := am_ hi218_2; have HC218_2 := am_ hl218_2; clear hi218_2 hl218_2; obtain ⟨p218, q218⟩ := pt_ x8_1 l0.length; have ea_ := Option.some.inj (hx216_2.symm.trans hx218_2); injection ea_ with ea_ en_ ec_
       subst ea_; subst ec_; clear en_; go_wp2; repeat (go_quiet (fail); try go_wp2)
       go_roundg k1
       case measure => have := HK1.out; omega
       case rel => exact ⟨(wrap64 (x8_1 + 1)), u1_, H', ⟨du⟩, u3_⟩
      ·rw [if_neg c8] at H; have c8b0 : (Op.bytesLess (((ax l0 x8_1).f1).toList) a2.toList) = false := by simpa using c8
       clear c8; simp only [Option.some.injEq, Prod.mk.injEq] at H; obtain ⟨rfl, rfl⟩ := H; obtain ⟨ad216, A216_2, c216_2, e216, hx216_0, hx216_1, hx216_2, hl216_2, hi216_2⟩ := dT HR0.out x8_1 od_ od_; cases e216; have HR216_2 := am_ hi216_2; have HC216_2 := am_ hl216_2; clear hi216_2 hl216_2; obtain ⟨p216, q216⟩ := pt_ x8_1 l0.length; obtain ⟨ad217, A217_2, c217_2, e217, hx217_0, hx217_1, hx217_2, hl217_2, hi217_2⟩ := dT HR0.out x8_1 od_ od_; obtain rfl : ad216 = ad217 := (by injection e217); have HR217_2 := am_ hi217_2; have HC217_2 := am_ hl217_2; clear hi217_2 hl217_2; obtain ⟨p217, q217⟩ := pt_ x8_1 l0.length; have ea_ := Option.some.inj (hx216_2.symm.trans hx217_2); injection ea_ with ea_ en_ ec_
       subst ea_; subst ec_; clear en_; obtain ⟨ad218, A218_2, c218_2, e218, hx218_0, hx218_1, hx218_2, hl218_2, hi218_2⟩ := dT HR0.out x8_1 od_ od_; obtain rfl : ad216 = ad218 := (by injection e218); have HR218_2 := am_ hi218_2; have HC218_2 := am_ hl218_2; clear hi218_2 hl218_2; obtain ⟨p218, q218⟩ := pt_ x8_1 l0.length; have ea_ := Option.some.inj (hx216_2.symm.trans hx218_2); injection ea_ with ea_ en_ ec_
       subst ea_; subst ec_; clear en_; obtain ⟨ad219, A219_2, c219_2, e219, hx219_0, hx219_1, hx219_2, hl219_2, hi219_2⟩ := dT HR0.out x8_1 od_ od_; obtain rfl : ad216 = ad219 := (by injection e219); have HR219_2 := am_ hi219_2; have HC219_2 := am_ hl219_2; clear hi219_2 hl219_2; obtain ⟨p219, q219⟩ := pt_ x8_1 l0.length; have ea_ := Option.some.inj (hx216_2.symm.trans hx219_2); injection ea_ with ea_ en_ ec_
       subst ea_; subst ec_; clear en_; obtain ⟨ad220, A220_2, c220_2, e220, hx220_0, hx220_1, hx220_2, hl220_2, hi220_2⟩ := dT HR0.out x8_1 od_ od_; obtain rfl : ad216 = ad220 := (by injection e220); have HR220_2 := am_ hi220_2; have HC220_2 := am_ hl220_2; clear hi220_2 hl220_2; obtain ⟨p220, q220⟩ := pt_ x8_1 l0.length; have ea_ := Option.some.inj (hx216_2.symm.trans hx220_2); injection ea_ with ea_ en_ ec_
       subst ea_; subst ec_; clear en_; go_wp2; repeat (go_quiet (fail); try go_wp2)
       go_ret2
       exact ⟨u4_, u3_⟩
     ·rw [if_neg c7] at H; have c7b0 := da c7; have c7b1 := dc c7; simp only [Option.some.injEq, Prod.mk.injEq] at H; obtain ⟨rfl, rfl⟩ := H; obtain ⟨ad216, A216_2, c216_2, e216, hx216_0, hx216_1, hx216_2, hl216_2, hi216_2⟩ := dT HR0.out x8_1 od_ od_; cases e216; have HR216_2 := am_ hi216_2; have HC216_2 := am_ hl216_2; clear hi216_2 hl216_2; obtain ⟨p216, q216⟩ := pt_ x8_1 l0.length; obtain ⟨ad217, A217_2, c217_2, e217, hx217_0, hx217_1, hx217_2, hl217_2, hi217_2⟩ := dT HR0.out x8_1 od_ od_; obtain rfl : ad216 = ad217 := (by injection e217); have HR217_2 := am_ hi217_2; have HC217_2 := am_ hl217_2; clear hi217_2 hl217_2; obtain ⟨p217, q217⟩ := pt_ x8_1 l0.length; have ea_ := Option.some.inj (hx216_2.symm.trans hx217_2); injection ea_ with ea_ en_ ec_
      subst ea_; subst ec_; clear en_; obtain ⟨ad221, A221_2, c221_2, e221, hx221_0, hx221_1, hx221_2, hl221_2, hi221_2⟩ := dT HR0.out x8_1 od_ od_; obtain rfl : ad216 = ad221 := (by injection e221); have HR221_2 := am_ hi221_2; have HC221_2 := am_ hl221_2; clear hi221_2 hl221_2; obtain ⟨p221, q221⟩ := pt_ x8_1 l0.length; have ea_ := Option.some.inj (hx216_2.symm.trans hx221_2); injection ea_ with ea_ en_ ec_
      subst ea_; subst ec_; clear en_; go_wp2; repeat (go_quiet (fail); try go_wp2)
      go_ret2
      exact ⟨u4_, u3_⟩
   ·rw [if_neg c4] at H; have c4b0 := decide_eq_false c4; clear c4; simp only [Option.some.injEq, Prod.mk.injEq] at H; obtain ⟨rfl, rfl⟩ := H; go_wp2; repeat (go_quiet (fail); try go_wp2)
    go_ret2
    exact ⟨u4_, u3_⟩
def dm.f (k : Nat) (l0 : List (S92)) (a1 : ByteArray) (a2 : Int) : Option (Bool) := (aV.f k l0 a1).bind fun t222 => (if t222 ≥ 0 then (if 0 ≤ t222 then (if t222 < (l0.length : Int) then (some (((ar l0 t222).f1) == a2)) else (none)) else (none)) else (some false))
instance dm.mono (k : Nat) : M3 dm.f k := ⟨by intros; unfold dm.f; exact mo_⟩
theorem dm.calls (k : Nat) (A0 : Option Addr) (c0 : Nat) (l0 : List (S92)) (a1 : ByteArray) (a2 : Int) (r : Bool) (w : World) (hr0 : Kd.C k92 w A0 l0.length l0) (hc0 : l0.length ≤ c0) (h : dm.f k l0 a1 a2 = some r) :
  Calls Tryz.prog 140 #[.slice A0 l0.length c0, .string a1, .int .i64 a2] w fun e w' => e = .returned (.bool r) ∧ Drawn0 w w' := by
 have HR0 := am_ hr0; have HC0 := am_ hc0; clear hr0 hc0; have H := h; clear h; unfold dm.f at H
 obtain ⟨t222, A4, H⟩ := bi_ H; by_cases c5 : t222 ≥ 0
 ·rw [if_pos c5] at H; have c5b0 : decide (0 ≤ t222) = true := decide_eq_true c5; clear c5; obtain ⟨c6b0, H⟩ := gd_ H; obtain ⟨c7b0, H⟩ := gd_ H; obtain rfl := si_ H; go_enter Tryz.func140, Tryz.ntmps140
  go_wp2_with (first | ((with_reducible refine gt_ 10 ?_); refine gD_ 10 Tryz.func96 (aV.calls k _ _ l0 a1 t222 _ ?side1 HC0.out A4.out) ?_; (case side1 => exact u72_); intro nd; obtain ⟨p223, q223⟩ := pq_ t222 l0.length; obtain ⟨ad223, e223, hx223_0, hx223_1, hx223_2⟩ := fJ HR0.out t222 p223 q223; cases e223; obtain ⟨p223, q223⟩ := tt_ p223 q223))
  go_ret
  exact ⟨u4_, u3_⟩
 ·rw [if_neg c5] at H; have c5b0 : decide (0 ≤ t222) = false := decide_eq_false c5; clear c5; obtain rfl := si_ H; go_enter Tryz.func140, Tryz.ntmps140
  go_wp2_with (first | ((with_reducible refine gt_ 10 ?_); refine gD_ 10 Tryz.func96 (aV.calls k _ _ l0 a1 t222 _ ?side1 HC0.out A4.out) ?_; (case side1 => exact u72_); intro nd))
  go_ret
  exact ⟨u4_, u3_⟩
def cD.f (a0 : Int) : Option (Int) := if a0 ≥ 65 then (if a0 ≤ 90 then (some ((a0 + 32) % 256)) else (some a0)) else (some a0)
theorem cD.calls (a0 : Int) (r : Int) (w : World) (h : cD.f a0 = some r) :
  Calls Tryz.prog 136 #[.int .u8 a0] w fun e w' => e = .returned (.int .u8 r) ∧ Drawn0 w w' := by
 have H := h; clear h; unfold cD.f at H
 by_cases c2 : a0 ≥ 65
 ·rw [if_pos c2] at H; have c2b0 : decide (65 ≤ a0) = true := decide_eq_true c2; clear c2; by_cases c3 : a0 ≤ 90
  ·rw [if_pos c3] at H; have c3b0 := decide_eq_true c3; clear c3; obtain rfl := si_ H; go_enter Tryz.func136, Tryz.ntmps136
   go_wp2; go_ret
   exact ⟨u4_, u3_⟩
  ·rw [if_neg c3] at H; have c3b0 := decide_eq_false c3; clear c3; obtain rfl := si_ H; go_enter Tryz.func136, Tryz.ntmps136
   go_wp2; go_ret
   exact ⟨u4_, u3_⟩
 ·rw [if_neg c2] at H; have c2b0 : decide (65 ≤ a0) = false := decide_eq_false c2; clear c2; obtain rfl := si_ H; go_enter Tryz.func136, Tryz.ntmps136
  go_wp2; go_ret
  exact ⟨u4_, u3_⟩
def b8.l0 : Nat → ByteArray → List Int → Int → Option (ByteArray)
 | 0, _, _, _ => none
 | k + 1, x0, x3, x4 => if x4 < (x0.size : Int) then (if 0 ≤ x4 then ((cD.f (bt x0 x4)).bind fun t227 => (if x3.length < 140737488355328 then (b8.l0 k x0 (x3 ++ [t227]) (wrap64 (x4 + 1))) else (none))) else (none)) else (some (strOfNums x3))
def b8.f (k : Nat) (a0 : ByteArray) : Option (ByteArray) := b8.l0 k a0 (([] : List Int)) 0
theorem b8.mono_l : ∀ k, M3 b8.l0 k
 | 0 => ⟨cU⟩
 | k + 1 => by have _ := b8.mono_l k; exact ⟨by intros; unfold b8.l0; exact mo_⟩
instance b8.mono (k : Nat) : M1 b8.f k := ⟨by have _ := b8.mono_l k; intros; unfold b8.f; exact mo_⟩
theorem b8.calls (k : Nat) (a0 : ByteArray) (r : ByteArray) (w : World) (h : b8.f k a0 = some r) :
  Calls Tryz.prog 93 #[.string a0] w fun e w' => e = .returned (.string r) ∧ Below w.heap.size w w' := by
 have HB := am_ (Below.refl w.heap.size w); have H := h; clear h; unfold b8.f at H
 obtain ⟨y224, hy224⟩ : ∃ y_ : List Int, y_ = (([] : List Int)) := ⟨_, rfl⟩; replace H : (b8.l0 k a0 y224 0) = some r := by first | (rw [hy224]; with_reducible exact H) | (have H2_ := (Option.bind_some _ _).symm.trans H; rw [hy224]; with_reducible exact H2_) | (have H2_ := (Option.bind_some _ _).symm.trans H; with_reducible exact H2_) | with_reducible exact H | (rw [hy224]; exact H) | exact H
 have Ny224 := am_ hy224; clear hy224; have H' := am_ H; clear H; go_enter Tryz.func93, Tryz.ntmps93
 go_wp2_with (first | ((with_reducible refine aX (N := 5) rfl ?_); refine Kd.R_lit (Kd.int .u8) _ 5 ?hg (N := 5) ?hd (xs := ([] : List Int)) (inner := []) (ok := fun _ => True) (okp := fun _ => True) ?hr ?hp (fun _ hk => hk) trivial (Below.refl _ _) (Nat.le_refl _) dg ?_; (case hd => rfl); (case hg => rfl); (case hr => exact cx); (case hp => exact ji); intro v225 w2 ho3 hb hg_ hnew_; clear hg_ hnew_; (first | rw [← Ny224.out] at ho3 | (simp only [Int.reduceToNat] at ho3; rw [← Ny224.out] at ho3)); have HO226 := am_ (Kd.R_lower ho3 (aq (bw_ HB))); replace HB := bs_ HB hb; clear hb ho3))
 go_loopg [3, 4] k (fun kq v3 v4 w' => ∃ (x3_1 : List Int) (x4_1 : Int), v4 = .int .i64 x4_1 ∧ aa (b8.l0 kq a0 x3_1 x4_1 = some r) ∧ aa (kq ≤ k) ∧ aa (Kd.R (Kd.int .u8) 5 w' w.heap.size (fun _ => True) v3 x3_1) ∧ aa (Below w.heap.size w w'))
 case atStart => exact ⟨(y224), (0), u1_, H', ⟨Nat.le_refl _⟩, ⟨by (with_reducible repeat (first | apply Kd.R_alloc | apply Kd.R_drewN | apply Kd.R_drew)); exact HO226.out⟩, ⟨bw_ HB⟩⟩
 case round =>
  clear H'; obtain ⟨x3_1, x4_1, rfl, HA, HK1, HO_3, HB⟩ := hrel; cases gk with
  | zero => exact absurd HA.out (by simp [b8.l0])
  | succ k1 =>
   have H := HA.out; clear HA; simp only [b8.l0] at H; by_cases c4 : x4_1 < (a0.size : Int)
   ·rw [if_pos c4] at H; have c4b0 := decide_eq_true c4; clear c4; obtain ⟨c5b0, H⟩ := gd_ H; obtain ⟨t227, A7, H⟩ := bi_ H; obtain ⟨LMc8, H⟩ := gl_ H; generalize hy228 : ((x3_1 ++ [t227]) : List Int) = y228 at H; have Ny228 := am_ hy228.symm; clear hy228; have H' := am_ H; clear H; obtain ⟨p6, q6⟩ := pq_ x4_1 a0.size; have hx6 := bZ a0 x4_1; obtain ⟨p6, q6⟩ := tt_ p6 q6; go_wp2_with (first | ((with_reducible refine gt_ 16 ?_); refine gD_ 16 Tryz.func136 (cD.calls (bt a0 x4_1) t227 _ A7.out) ?_; intro nd) | ((with_reducible refine ca (b := .append) (xs := #[.tmp 12, .tmp 17]) rfl ?_); at_builtin; refine Kd.R_append (Kd.int .u8) (w0 := w) w.heap.size rfl (.tmp 12) (.tmp 17) 22 5 (.int .u8 0) 1 rfl Tryz.underlying22 info5 rfl bC aA u3 x3_1 t227 [.int .u8 t227] (fun _ => True) (fun _ => False) rfl rfl ?aP (fun _ hk => hk.elim) ?aF ?aO ?aB ?aS ?aL ?_; (case aP => exact rfl); (case aB => exact fM); (case aF => exact ln); (case aO => exact u5_); (case aS => exact fV); (case aL => have := LMc8.out; omega); intro v229 w9 ho hb hg hat; rw [← Ny228.out] at ho; replace HB := am_ (hb); have HO230 := am_ (ho); clear HO_3 ho hb hg hat))
    go_roundg k1
    case measure => have := HK1.out; omega
    case rel => exact ⟨(y228), (wrap64 (x4_1 + 1)), u1_, H', ⟨du⟩, ⟨by (with_reducible repeat (first | apply Kd.R_alloc | apply Kd.R_drewN | apply Kd.R_drew)); exact HO230.out⟩, ⟨bw_ HB⟩⟩
   ·rw [if_neg c4] at H; have c4b0 := decide_eq_false c4; clear c4; obtain rfl := si_ H; have hcv10 := n9 (P := Tryz.prog) Tryz.underlying22 Tryz.underlying5 Tryz.underlying9 (Kd.own_of_R HO_3.out); go_wp2; go_ret
    exact ⟨u0_, bw_ HB⟩
def bq.l0 : Nat → ByteArray → List ByteArray → Int → Option (Bool)
 | 0, _, _, _ => none
 | k + 1, x0, x3, x4 => if x4 < (x3.length : Int) then (if 0 ≤ x4 then (if (eT ByteArray.empty x3 x4).toList = x0.toList then (some true) else (bq.l0 k x0 x3 (wrap64 (x4 + 1)))) else (none)) else (some false)
def bq.f (k : Nat) (a0 : ByteArray) : Option (Bool) := bq.l0 k a0 (([(⟨#[97]⟩ : ByteArray), (⟨#[97, 110]⟩ : ByteArray), (⟨#[97, 110, 100]⟩ : ByteArray), (⟨#[111, 102]⟩ : ByteArray), (⟨#[116, 104, 101]⟩ : ByteArray), (⟨#[116, 111]⟩ : ByteArray)] : List ByteArray)) 0
theorem bq.mono_l : ∀ k, M3 bq.l0 k
 | 0 => ⟨cU⟩
 | k + 1 => by have _ := bq.mono_l k; exact ⟨by intros; unfold bq.l0; exact mo_⟩
instance bq.mono (k : Nat) : M1 bq.f k := ⟨by have _ := bq.mono_l k; intros; unfold bq.f; exact mo_⟩
theorem bq.calls (k : Nat) (a0 : ByteArray) (r : Bool) (w : World) (h : bq.f k a0 = some r) :
  Calls Tryz.prog 94 #[.string a0] w fun e w' => e = .returned (.bool r) ∧ Below w.heap.size w w' := by
 have HB := am_ (Below.refl w.heap.size w); have H := h; clear h; unfold bq.f at H
 generalize hy231 : ((([(⟨#[97]⟩ : ByteArray), (⟨#[97, 110]⟩ : ByteArray), (⟨#[97, 110, 100]⟩ : ByteArray), (⟨#[111, 102]⟩ : ByteArray), (⟨#[116, 104, 101]⟩ : ByteArray), (⟨#[116, 111]⟩ : ByteArray)] : List ByteArray)) : List ByteArray) = y231 at H; have Ny231 := am_ hy231.symm; clear hy231; have H' := am_ H; clear H; go_enter Tryz.func94, Tryz.ntmps94
 go_wp2_with (first | ((with_reducible refine aX (N := 5) rfl ?_); refine Kd.R_lit Kd.string _ 9 ?hg (N := 5) ?hd (xs := ([(⟨#[97]⟩ : ByteArray), (⟨#[97, 110]⟩ : ByteArray), (⟨#[97, 110, 100]⟩ : ByteArray), (⟨#[111, 102]⟩ : ByteArray), (⟨#[116, 104, 101]⟩ : ByteArray), (⟨#[116, 111]⟩ : ByteArray)] : List ByteArray)) (inner := [.string (⟨#[97]⟩ : ByteArray), .string (⟨#[97, 110]⟩ : ByteArray), .string (⟨#[97, 110, 100]⟩ : ByteArray), .string (⟨#[111, 102]⟩ : ByteArray), .string (⟨#[116, 104, 101]⟩ : ByteArray), .string (⟨#[116, 111]⟩ : ByteArray)]) (ok := fun _ => True) (okp := fun _ => True) ?hr ?hp (fun _ hk => hk) trivial (Below.refl _ _) (Nat.le_refl _) dg ?_; (case hd => rfl); (case hg => rfl); (case hr => exact cx); (case hp => exact (Reps.one (show Kd.M Kd.string _ _ _ (⟨#[97]⟩ : ByteArray) [.string (⟨#[97]⟩ : ByteArray)] from rfl) (Reps.one (show Kd.M Kd.string _ _ _ (⟨#[97, 110]⟩ : ByteArray) [.string (⟨#[97, 110]⟩ : ByteArray)] from rfl) (Reps.one (show Kd.M Kd.string _ _ _ (⟨#[97, 110, 100]⟩ : ByteArray) [.string (⟨#[97, 110, 100]⟩ : ByteArray)] from rfl) (Reps.one (show Kd.M Kd.string _ _ _ (⟨#[111, 102]⟩ : ByteArray) [.string (⟨#[111, 102]⟩ : ByteArray)] from rfl) (Reps.one (show Kd.M Kd.string _ _ _ (⟨#[116, 104, 101]⟩ : ByteArray) [.string (⟨#[116, 104, 101]⟩ : ByteArray)] from rfl) (Reps.one (show Kd.M Kd.string _ _ _ (⟨#[116, 111]⟩ : ByteArray) [.string (⟨#[116, 111]⟩ : ByteArray)] from rfl) (Reps.none _ _)))))))); intro v232 w2 ho3 hb hg_ hnew_; clear hg_ hnew_; (first | rw [← Ny231.out] at ho3 | (simp only [Int.reduceToNat] at ho3; rw [← Ny231.out] at ho3)); have HO233 := am_ (Kd.R_lower ho3 (aq (bw_ HB))); replace HB := bs_ HB hb; clear hb ho3))
 go_loopg [4] k (fun kq v4 w' => ∃ (x4_1 : Int), v4 = .int .i64 x4_1 ∧ aa (bq.l0 kq a0 y231 x4_1 = some r) ∧ aa (kq ≤ k) ∧ aa (Kd.R Kd.string 9 w' w.heap.size (fun _ => True) v232 y231) ∧ aa (Below w.heap.size w w'))
 case atStart => exact ⟨(0), u1_, H', ⟨Nat.le_refl _⟩, ⟨by (with_reducible repeat (first | apply Kd.R_alloc | apply Kd.R_drewN | apply Kd.R_drew)); exact HO233.out⟩, ⟨bw_ HB⟩⟩
 case round =>
  clear H'; obtain ⟨x4_1, rfl, HA, HK1, HO_3, HB⟩ := hrel; cases gk with
  | zero => exact absurd HA.out (by simp [bq.l0])
  | succ k1 =>
   have H := HA.out; clear HA; simp only [bq.l0] at H; by_cases c4 : x4_1 < (y231.length : Int)
   ·rw [if_pos c4] at H; have c4b0 := decide_eq_true c4; clear c4; obtain ⟨c5b0, H⟩ := gd_ H; by_cases c6 : (eT ByteArray.empty y231 x4_1).toList = a0.toList
    ·rw [if_pos c6] at H; have c6b0 := db c6; have c6b1 := dd c6; clear c6; obtain rfl := si_ H; obtain ⟨Ao7, co7, eo7⟩ := Kd.R_slice HO_3.out; subst eo7; obtain ⟨ad234, e234, hx234_0⟩ := Kd.at_string (Kd.R_reads' HO_3.out).2.2 x4_1 od_ od_; cases e234; obtain ⟨p234, q234⟩ := pt_ x4_1 y231.length; go_wp2; go_ret
     exact ⟨u0_, bw_ HB⟩
    ·rw [if_neg c6] at H; have c6b0 := da c6; have c6b1 := dc c6; have H' := am_ H; clear H; obtain ⟨Ao8, co8, eo8⟩ := Kd.R_slice HO_3.out; subst eo8; obtain ⟨ad234, e234, hx234_0⟩ := Kd.at_string (Kd.R_reads' HO_3.out).2.2 x4_1 od_ od_; cases e234; obtain ⟨p234, q234⟩ := pt_ x4_1 y231.length; go_wp2; go_roundg k1
     case measure => have := HK1.out; omega
     case rel => exact ⟨(wrap64 (x4_1 + 1)), u1_, H', ⟨du⟩, ⟨u5_⟩, ⟨bw_ HB⟩⟩
   ·rw [if_neg c4] at H; have c4b0 := decide_eq_false c4; clear c4; obtain rfl := si_ H; obtain ⟨Ao9, co9, eo9⟩ := Kd.R_slice HO_3.out; subst eo9; go_wp2; go_ret
    exact ⟨u0_, bw_ HB⟩
mutual
def bn.j0 : Nat → ByteArray → Option (ByteArray)
 | 0, _ => none
 | k + 1, x3 => if (x3.size : Int) > 3 then (if 0 ≤ (wrap64 ((x3.size : Int) - 1)) then (if (wrap64 ((x3.size : Int) - 1)) < (x3.size : Int) then (if (bt x3 (wrap64 ((x3.size : Int) - 1))) = 115 then (if 0 ≤ (wrap64 ((x3.size : Int) - 2)) then (if (wrap64 ((x3.size : Int) - 2)) < (x3.size : Int) then (bn.j1 k x3 (x3.size : Int) ((bt x3 (wrap64 ((x3.size : Int) - 2))) != 115)) else (none)) else (none)) else (bn.j1 k x3 (x3.size : Int) false)) else (none)) else (none)) else (bn.j1 k x3 (x3.size : Int) false)
def bn.j1 : Nat → ByteArray → Int → Bool → Option (ByteArray)
 | 0, _, _, _ => none
 | k + 1, x3, x4, x29 => if x29 = true then (if 0 ≤ (wrap64 (x4 - 1)) then (if (wrap64 (x4 - 1)) ≤ (x3.size : Int) then ((bq.f k (x3.extract 0 ((wrap64 (x4 - 1)) : Int).toNat)).bind fun t236 => (if t236 = true then (some (⟨#[]⟩ : ByteArray)) else (some (x3.extract 0 ((wrap64 (x4 - 1)) : Int).toNat)))) else (none)) else (none)) else ((bq.f k x3).bind fun t237 => (if t237 = true then (some (⟨#[]⟩ : ByteArray)) else (some x3)))
end
def bn.f (k : Nat) (a0 : ByteArray) : Option (ByteArray) := (b8.f k a0).bind fun t235 => (if (t235.size : Int) > 12 then (if 0 ≤ 12 then (if 12 ≤ (t235.size : Int) then (bn.j0 k (t235.extract 0 12)) else (none)) else (none)) else (bn.j0 k t235))
theorem bn.mono_l : ∀ k, M1 bn.j0 k ∧ M3 bn.j1 k
 | 0 => ⟨⟨cU⟩, ⟨cU⟩⟩
 | k + 1 => by obtain ⟨_, _⟩ := bn.mono_l k; exact ⟨⟨by intros; unfold bn.j0; exact mo_⟩, ⟨by intros; unfold bn.j1; exact mo_⟩⟩
instance bn.mono (k : Nat) : M1 bn.f k := ⟨by obtain ⟨_, _⟩ := bn.mono_l k; intros; unfold bn.f; exact mo_⟩
theorem bn.calls (k : Nat) (a0 : ByteArray) (r : ByteArray) (w : World) (h : bn.f k a0 = some r) :
  Calls Tryz.prog 47 #[.string a0] w fun e w' => e = .returned (.string r) ∧ Below w.heap.size w w' := by
 have HB := am_ (Below.refl w.heap.size w); have H := h; clear h; unfold bn.f at H
 obtain ⟨t235, A2, H⟩ := bi_ H; have HC3 := am_ H; clear H; go_enter Tryz.func47, Tryz.ntmps47
 go_upto_if 9 with (first | ((with_reducible refine gt_ 6 ?_); refine gB_ 6 Tryz.func93 (b8.calls k a0 t235 _ A2.out) ?_; intro w4 hb; replace HB := bs_ HB hb; (try clear hb)))
 (try simp only [Act.put, List.setIfInBounds_toArray, List.set_cons_zero, List.set_cons_succ])
 go_cut [3] (fun v3 wc => ∃ (kq : Nat) (x3_2 : ByteArray), v3 = .string x3_2 ∧ aa (bn.j0 kq x3_2 = some r) ∧ aa (kq ≤ k) ∧ aa (Below w.heap.size w wc))
 case first =>
  have H := HC3.out; clear HC3; by_cases c5 : (t235.size : Int) > 12
  ·rw [if_pos c5] at H; have c5b0 : decide (12 < (t235.size : Int)) = true := decide_eq_true c5; have c5b1 : decide (12 < t235.size) = true := decide_eq_true aA; clear c5; (first | rw [c5b0] | (simp only [cP, dz]; rw [c5b0]) | skip)
   obtain ⟨c6b0, c6b1, H⟩ := ge_ H; obtain ⟨c7b0, c7b1, H⟩ := ge_ H; have H' := am_ H; clear H; go_wp2; go_meet
   case rel => exact ⟨_, (t235.extract 0 12), u1_, H', ⟨jH⟩, ⟨bw_ HB⟩⟩
  ·rw [if_neg c5] at H; have c5b0 : decide (12 < (t235.size : Int)) = false := decide_eq_false c5; have c5b1 : decide (12 < t235.size) = false := decide_eq_false aA; clear c5; (first | rw [c5b0] | (simp only [cP, dz]; rw [c5b0]) | skip)
   have H' := am_ H; clear H; go_wp2; go_meet
   case rel => exact ⟨_, (t235), u1_, H', ⟨jH⟩, ⟨bw_ HB⟩⟩
 case rest =>
  clear HC3; obtain ⟨kq, x3_2, rfl, HA, HJ2, HB⟩ := hcut; cases kq with
  | zero => exact absurd HA.out (by simp [bn.j0])
  | succ kj2 =>
   have H := HA.out; clear HA; simp only [bn.j0] at H; have HC8 := am_ H; clear H; go_upto_region 5 with (fail)
   go_cut [29] (fun v29 wc => ∃ (kq : Nat) (x29_7 : Bool), v29 = .bool x29_7 ∧ aa (bn.j1 kq x3_2 (x3_2.size : Int) x29_7 = some r) ∧ aa (kq ≤ kj2) ∧ aa (Below w.heap.size w wc))
   case first =>
    have H := HC8.out; clear HC8; by_cases c9 : (x3_2.size : Int) > 3
    ·rw [if_pos c9] at H; have c9b0 : decide (3 < (x3_2.size : Int)) = true := decide_eq_true c9; have c9b1 : decide (3 < x3_2.size) = true := decide_eq_true aA; clear c9; (first | rw [c9b0] | (simp only [cP, dz]; rw [c9b0]) | skip)
     obtain ⟨ji10, hji10⟩ : ∃ j_ : Int, (wrap64 ((x3_2.size : Int) - 1)) = j_ := ⟨_, rfl⟩; replace H : (if 0 ≤ (ji10) then (if (ji10) < (x3_2.size : Int) then (if (bt x3_2 (ji10)) = 115 then (if 0 ≤ (wrap64 ((x3_2.size : Int) - 2)) then (if (wrap64 ((x3_2.size : Int) - 2)) < (x3_2.size : Int) then (bn.j1 kj2 x3_2 (x3_2.size : Int) ((bt x3_2 (wrap64 ((x3_2.size : Int) - 2))) != 115)) else (none)) else (none)) else (bn.j1 kj2 x3_2 (x3_2.size : Int) false)) else (none)) else (none)) = some r := by first | (rw [hji10] at H; exact H) | (simp only [hji10] at H ⊢; exact H)
     have hji10w : (IntKind.i64.wrap ((x3_2.size : Int) - 1)) = ji10 := (cP _).trans hji10; obtain ⟨c11b0, H⟩ := gd_ H; obtain ⟨c12b0, H⟩ := gd_ H; by_cases c14 : (bt x3_2 (ji10)) = 115
     ·rw [if_pos c14] at H; have c14b0 := db c14; have c14b1 := dd c14; clear c14; obtain ⟨ji15, hji15⟩ : ∃ j_ : Int, (wrap64 ((x3_2.size : Int) - 2)) = j_ := ⟨_, rfl⟩; replace H : (if 0 ≤ (ji15) then (if (ji15) < (x3_2.size : Int) then (bn.j1 kj2 x3_2 (x3_2.size : Int) ((bt x3_2 (ji15)) != 115)) else (none)) else (none)) = some r := by first | (rw [hji15] at H; exact H) | (simp only [hji15] at H ⊢; exact H)
      have hji15w : (IntKind.i64.wrap ((x3_2.size : Int) - 2)) = ji15 := (cP _).trans hji15; obtain ⟨c16b0, H⟩ := gd_ H; obtain ⟨c17b0, H⟩ := gd_ H; have H' := am_ H; clear H; obtain ⟨p13, q13⟩ := pq_ (ji10) x3_2.size; have hx13 := bZ x3_2 (ji10); obtain ⟨p13, q13⟩ := tt_ p13 q13; obtain ⟨p18, q18⟩ := pq_ (ji15) x3_2.size; have hx18 := bZ x3_2 (ji15); obtain ⟨p18, q18⟩ := tt_ p18 q18; go_wp2; go_meet
      case rel => exact ⟨_, (((bt x3_2 (ji15)) != 115)), (by first | rfl | (simp; done) | (simp only [← hji15] <;> (first | rfl | simp)) | (simp [*]; done)), H', ⟨rn⟩, ⟨bw_ HB⟩⟩
     ·rw [if_neg c14] at H; have c14b0 := da c14; have c14b1 := dc c14; have H' := am_ H; clear H; obtain ⟨p13, q13⟩ := pq_ (ji10) x3_2.size; have hx13 := bZ x3_2 (ji10); obtain ⟨p13, q13⟩ := tt_ p13 q13; go_wp2; go_meet
      case rel => exact ⟨_, (false), u1_, H', ⟨rn⟩, ⟨bw_ HB⟩⟩
    ·rw [if_neg c9] at H; have c9b0 : decide (3 < (x3_2.size : Int)) = false := decide_eq_false c9; have c9b1 : decide (3 < x3_2.size) = false := decide_eq_false aA; clear c9; (first | rw [c9b0] | (simp only [cP, dz]; rw [c9b0]) | skip)
     have H' := am_ H; clear H; go_wp2; go_meet
     case rel => exact ⟨_, (false), u1_, H', ⟨rn⟩, ⟨bw_ HB⟩⟩
   case rest =>
    clear HC8; obtain ⟨kq, x29_7, rfl, HA, HJ7, HB⟩ := hcut; cases kq with
    | zero => exact absurd HA.out (by simp [bn.j1])
    | succ kj7 =>
     have H := HA.out; clear HA; simp only [bn.j1] at H; cases x29_7
     ·replace H := hf_ H; obtain ⟨t237, A27, H⟩ := bi_ H; cases t237
      ·replace H := hf_ H; obtain rfl := si_ H; go_wp2_with (first | ((with_reducible refine gt_ 35 ?_); refine gB_ 35 Tryz.func94 (bq.calls kj7 x3_2 false _ A27.out) ?_; intro w30 hb; replace HB := bs_ HB hb; (try clear hb)))
       go_ret
       exact ⟨u0_, bw_ HB⟩
      ·replace H := ht_ H; obtain rfl := si_ H; go_wp2_with (first | ((with_reducible refine gt_ 35 ?_); refine gB_ 35 Tryz.func94 (bq.calls kj7 x3_2 true _ A27.out) ?_; intro w29 hb; replace HB := bs_ HB hb; (try clear hb)))
       go_ret
       exact ⟨u0_, bw_ HB⟩
     ·replace H := ht_ H; obtain ⟨ji20, hji20⟩ : ∃ j_ : Int, (wrap64 ((x3_2.size : Int) - 1)) = j_ := ⟨_, rfl⟩; replace H : (if 0 ≤ (ji20) then (if (ji20) ≤ (x3_2.size : Int) then ((bq.f kj7 (x3_2.extract 0 ((ji20) : Int).toNat)).bind fun t236 => (if t236 = true then (some (⟨#[]⟩ : ByteArray)) else (some (x3_2.extract 0 ((ji20) : Int).toNat)))) else (none)) else (none)) = some r := by first | (rw [hji20] at H; exact H) | (simp only [hji20] at H ⊢; exact H)
      have hji20w : (IntKind.i64.wrap ((x3_2.size : Int) - 1)) = ji20 := (cP _).trans hji20; obtain ⟨c21b0, c21b1, H⟩ := ge_ H; obtain ⟨c22b0, c22b1, H⟩ := ge_ H; obtain ⟨t236, A23, H⟩ := bi_ H; cases t236
      ·replace H := hf_ H; obtain rfl := si_ H; go_wp2_with (first | ((with_reducible refine ei (f := 94) rfl ?_); refine gD (some 35) rfl rfl Tryz.func94 ch rfl #[.string (x3_2.extract 0 ((ji20) : Int).toNat)] rfl u88_ ?_; (with_reducible refine (bq.calls kj7 (x3_2.extract 0 ((ji20) : Int).toNat) false _ A23.out).mono ?_); rintro e w26 ⟨rfl, hb⟩; refine ⟨_, rfl, ?_⟩; replace HB := bs_ HB hb; (try clear hb)))
       go_ret
       exact ⟨u80_, bw_ HB⟩
      ·replace H := ht_ H; obtain rfl := si_ H; go_wp2_with (first | ((with_reducible refine ei (f := 94) rfl ?_); refine gD (some 35) rfl rfl Tryz.func94 ch rfl #[.string (x3_2.extract 0 ((ji20) : Int).toNat)] rfl u88_ ?_; (with_reducible refine (bq.calls kj7 (x3_2.extract 0 ((ji20) : Int).toNat) true _ A23.out).mono ?_); rintro e w25 ⟨rfl, hb⟩; refine ⟨_, rfl, ?_⟩; replace HB := bs_ HB hb; (try clear hb)))
       go_ret
       exact ⟨u80_, bw_ HB⟩
def dI.f (a0 : Int) : Option (Bool) := (cD.f a0).bind fun t238 => (if t238 ≥ 97 then (if t238 ≤ 122 then (some true) else (if t238 ≥ 48 then (some (decide (t238 ≤ 57))) else (some false))) else (if t238 ≥ 48 then (some (decide (t238 ≤ 57))) else (some false)))
theorem dI.calls (a0 : Int) (r : Bool) (w : World) (h : dI.f a0 = some r) :
  Calls Tryz.prog 181 #[.int .u8 a0] w fun e w' => e = .returned (.bool r) ∧ Drawn0 w w' := by
 have H := h; clear h; unfold dI.f at H
 obtain ⟨t238, A2, H⟩ := bi_ H; by_cases c3 : t238 ≥ 97
 ·rw [if_pos c3] at H; have c3b0 : decide (97 ≤ t238) = true := decide_eq_true c3; clear c3; by_cases c4 : t238 ≤ 122
  ·rw [if_pos c4] at H; have c4b0 := decide_eq_true c4; clear c4; obtain rfl := si_ H; go_enter Tryz.func181, Tryz.ntmps181
   go_wp2_with (first | ((with_reducible refine gt_ 5 ?_); refine gD_ 5 Tryz.func136 (cD.calls a0 t238 _ A2.out) ?_; intro nd))
   go_ret
   exact ⟨u4_, u3_⟩
  ·rw [if_neg c4] at H; have c4b0 := decide_eq_false c4; clear c4; by_cases c5 : t238 ≥ 48
   ·rw [if_pos c5] at H; have c5b0 : decide (48 ≤ t238) = true := decide_eq_true c5; clear c5; obtain rfl := si_ H; go_enter Tryz.func181, Tryz.ntmps181
    go_wp2_with (first | ((with_reducible refine gt_ 5 ?_); refine gD_ 5 Tryz.func136 (cD.calls a0 t238 _ A2.out) ?_; intro nd))
    go_ret
    exact ⟨u4_, u3_⟩
   ·rw [if_neg c5] at H; have c5b0 : decide (48 ≤ t238) = false := decide_eq_false c5; clear c5; obtain rfl := si_ H; go_enter Tryz.func181, Tryz.ntmps181
    go_wp2_with (first | ((with_reducible refine gt_ 5 ?_); refine gD_ 5 Tryz.func136 (cD.calls a0 t238 _ A2.out) ?_; intro nd))
    go_ret
    exact ⟨u4_, u3_⟩
 ·rw [if_neg c3] at H; have c3b0 : decide (97 ≤ t238) = false := decide_eq_false c3; clear c3; by_cases c6 : t238 ≥ 48
  ·rw [if_pos c6] at H; have c6b0 : decide (48 ≤ t238) = true := decide_eq_true c6; clear c6; obtain rfl := si_ H; go_enter Tryz.func181, Tryz.ntmps181
   go_wp2_with (first | ((with_reducible refine gt_ 5 ?_); refine gD_ 5 Tryz.func136 (cD.calls a0 t238 _ A2.out) ?_; intro nd))
   go_ret
   exact ⟨u4_, u3_⟩
  ·rw [if_neg c6] at H; have c6b0 : decide (48 ≤ t238) = false := decide_eq_false c6; clear c6; obtain rfl := si_ H; go_enter Tryz.func181, Tryz.ntmps181
   go_wp2_with (first | ((with_reducible refine gt_ 5 ?_); refine gD_ 5 Tryz.func136 (cD.calls a0 t238 _ A2.out) ?_; intro nd))
   go_ret
   exact ⟨u4_, u3_⟩
mutual
def aT.l0 : Nat → ByteArray → List (S90) → Int → Option ((List (S90)))
 | 0, _, _, _ => none
 | k + 1, x0, x3, x4 => if x4 < (x0.size : Int) then (aT.l1 k x0 x3 x4 x4) else (some x3)
def aT.l1 : Nat → ByteArray → List (S90) → Int → Int → Option ((List (S90)))
 | 0, _, _, _, _ => none
 | k + 1, x0, x3, x4, x5 => if x5 < (x0.size : Int) then (if 0 ≤ x5 then ((dI.f (bt x0 x5)).bind fun t242 => (if t242 = true then (aT.l1 k x0 x3 x4 (wrap64 (x5 + 1))) else (if x5 = x4 then (aT.l0 k x0 x3 (wrap64 (x4 + 1))) else (if 0 ≤ x4 then (if x4 ≤ x5 then (if x5 ≤ (x0.size : Int) then (if x3.length < 4398046511104 then (aT.l0 k x0 (x3 ++ [(⟨x0.extract (x4 : Int).toNat (x5 : Int).toNat, x4, x5⟩ : S90)]) x5) else (none)) else (none)) else (none)) else (none))))) else (none)) else (if x5 = x4 then (aT.l0 k x0 x3 (wrap64 (x4 + 1))) else (if 0 ≤ x4 then (if x4 ≤ x5 then (if x5 ≤ (x0.size : Int) then (if x3.length < 4398046511104 then (aT.l0 k x0 (x3 ++ [(⟨x0.extract (x4 : Int).toNat (x5 : Int).toNat, x4, x5⟩ : S90)]) x5) else (none)) else (none)) else (none)) else (none)))
end
def aT.f (k : Nat) (a0 : ByteArray) : Option ((List (S90))) := aT.l0 k a0 (([] : List (S90))) 0
theorem aT.mono_l : ∀ k, M3 aT.l0 k ∧ M4 aT.l1 k
 | 0 => ⟨⟨cU⟩, ⟨cU⟩⟩
 | k + 1 => by obtain ⟨_, _⟩ := aT.mono_l k; exact ⟨⟨by intros; unfold aT.l0; exact mo_⟩, ⟨by intros; unfold aT.l1; exact mo_⟩⟩
instance aT.mono (k : Nat) : M1 aT.f k := ⟨by obtain ⟨_, _⟩ := aT.mono_l k; intros; unfold aT.f; exact mo_⟩
theorem aT.calls (k : Nat) (a0 : ByteArray) (r : List (S90)) (w : World) (h : aT.f k a0 = some r) :
  Calls Tryz.prog 161 #[.string a0] w fun e w' => ∃ v0_ : Value, e = .returned (v0_) ∧ Kd.R k90 90 w' w.heap.size (fun _ => True) v0_ r ∧ Below w.heap.size w w' := by
 have hu90 := Tryz.underlying90; have HB := am_ (Below.refl w.heap.size w); have H := h; clear h; unfold aT.f at H
 obtain ⟨y239, hy239⟩ : ∃ y_ : List (S90), y_ = (([] : List (S90))) := ⟨_, rfl⟩; replace H : (aT.l0 k a0 y239 0) = some r := by first | (rw [hy239]; with_reducible exact H) | (have H2_ := (Option.bind_some _ _).symm.trans H; rw [hy239]; with_reducible exact H2_) | (have H2_ := (Option.bind_some _ _).symm.trans H; with_reducible exact H2_) | with_reducible exact H | (rw [hy239]; exact H) | exact H
 have Ny239 := am_ hy239; clear hy239; have H' := am_ H; clear H; go_enter Tryz.func161, Tryz.ntmps161
 go_wp2_with (first | ((with_reducible refine aX (N := 6) rfl ?_); refine Kd.R_lit k90 _ 90 ?hg (N := 6) ?hd (xs := ([] : List (S90))) (inner := []) (ok := fun _ => True) (okp := fun _ => True) ?hr ?hp (fun _ hk => hk) trivial (Below.refl _ _) (Nat.le_refl _) dg ?_; (case hd => rfl); (case hg => rfl); (case hr => exact cx); (case hp => exact ji); intro v240 w2 ho3 hb hg_ hnew_; clear hg_ hnew_; (first | rw [← Ny239.out] at ho3 | (simp only [Int.reduceToNat] at ho3; rw [← Ny239.out] at ho3)); have HO241 := am_ (Kd.R_lower ho3 (aq (bw_ HB))); replace HB := bs_ HB hb; clear hb ho3))
 go_loopg [3, 4] k (fun kq v3 v4 w' => ∃ (x3_1 : List (S90)) (x4_1 : Int), v4 = .int .i64 x4_1 ∧ aa (aT.l0 kq a0 x3_1 x4_1 = some r) ∧ aa (kq ≤ k) ∧ aa (Kd.R k90 90 w' w.heap.size (fun _ => True) v3 x3_1) ∧ aa (Below w.heap.size w w'))
 case atStart => exact ⟨(y239), (0), u1_, H', ⟨Nat.le_refl _⟩, ⟨by (with_reducible repeat (first | apply Kd.R_alloc | apply Kd.R_drewN | apply Kd.R_drew)); exact HO241.out⟩, ⟨bw_ HB⟩⟩
 case round =>
  clear H'; obtain ⟨x3_1, x4_1, rfl, HA, HK1, HO_3, HB⟩ := hrel; cases gk with
  | zero => exact absurd HA.out (by simp [aT.l0])
  | succ k1 =>
   have H := HA.out; clear HA; simp only [aT.l0] at H; by_cases c4 : x4_1 < (a0.size : Int)
   ·rw [if_pos c4] at H; have c4b0 := decide_eq_true c4; clear c4; have H' := am_ H; clear H; go_wp2; go_loopg [5] k1 (fun kq v5 w' => ∃ (x5_2 : Int), v5 = .int .i64 x5_2 ∧ aa (aT.l1 kq a0 x3_1 x4_1 x5_2 = some r) ∧ aa (kq ≤ k1) ∧ aa (Kd.R k90 90 w' w.heap.size (fun _ => True) u3 x3_1) ∧ aa (Below w.heap.size w w'))
    case atStart => exact ⟨(x4_1), u1_, H', ⟨Nat.le_refl _⟩, ⟨u5_⟩, ⟨bw_ HB⟩⟩
    case round =>
     clear H'; try clear c4
     try clear c4b0
     obtain ⟨x5_2, rfl, HA, HK2, HO_3, HB⟩ := hrel; cases gk with
     | zero => exact absurd HA.out (by simp [aT.l1])
     | succ k2 =>
      have H := HA.out; clear HA; simp only [aT.l1] at H; by_cases c5 : x5_2 < (a0.size : Int)
      ·rw [if_pos c5] at H; have c5b0 := decide_eq_true c5; clear c5; obtain ⟨c6b0, H⟩ := gd_ H; obtain ⟨t242, A8, H⟩ := bi_ H; cases t242
       ·replace H := hf_ H; by_cases c10 : x5_2 = x4_1
        ·rw [if_pos c10] at H; have c10b0 := db c10; have c10b1 := dd c10; clear c10; have H' := am_ H; clear H; obtain ⟨p7, q7⟩ := pq_ x5_2 a0.size; have hx7 := bZ a0 x5_2; obtain ⟨p7, q7⟩ := tt_ p7 q7; go_wp2_with (first | (go_at_call 181; (with_reducible refine (dI.calls (bt a0 x5_2) false _ A8.out).mono ?_); rintro e w' ⟨rfl, ⟨nd, rfl⟩⟩))
         go_roundg k2
         case measure => have := HK1.out; have := HK2.out; omega
         case rel => exact ⟨(x3_1), (wrap64 (x4_1 + 1)), u1_, H', ⟨ly⟩, ⟨u5_⟩, ⟨bw_ HB⟩⟩
        ·rw [if_neg c10] at H; have c10b0 := da c10; have c10b1 := dc c10; obtain ⟨c11b0, c11b1, H⟩ := ge_ H; obtain ⟨c12b0, c12b1, H⟩ := ge_ H; obtain ⟨c13b0, c13b1, H⟩ := ge_ H; obtain ⟨LMc14, H⟩ := gl_ H; generalize hy243 : ((x3_1 ++ [(⟨a0.extract (x4_1 : Int).toNat (x5_2 : Int).toNat, x4_1, x5_2⟩ : S90)]) : List (S90)) = y243 at H; have Ny243 := am_ hy243.symm; clear hy243; have H' := am_ H; clear H; obtain ⟨p7, q7⟩ := pq_ x5_2 a0.size; have hx7 := bZ a0 x5_2; obtain ⟨p7, q7⟩ := tt_ p7 q7; go_wp2_with (first | (go_at_call 181; (with_reducible refine (dI.calls (bt a0 x5_2) false _ A8.out).mono ?_); rintro e w' ⟨rfl, ⟨nd, rfl⟩⟩) | ((with_reducible refine ca (b := .append) (xs := #[.tmp 29, .tmp 37]) rfl ?_); at_builtin; refine Kd.R_append k90 (w0 := w) w.heap.size rfl (.tmp 29) (.tmp 37) 87 90 (.agg #[(.string ⟨#[]⟩), (.int .i64 0), (.int .i64 0)]) 32 rfl Tryz.underlying87 mi rfl bC aA u3 x3_1 (⟨a0.extract (x4_1 : Int).toNat (x5_2 : Int).toNat, x4_1, x5_2⟩ : S90) [.string (a0.extract (x4_1 : Int).toNat (x5_2 : Int).toNat), .int .i64 x4_1, .int .i64 x5_2] (fun _ => True) (fun _ => False) rfl rfl ?aP (fun _ hk => hk.elim) ?aF ?aO ?aB ?aS ?aL ?_; (case aP => exact jU _ _ _ (⟨a0.extract (x4_1 : Int).toNat (x5_2 : Int).toNat, x4_1, x5_2⟩ : S90)); (case aB => exact fM); (case aF => exact ln); (case aO => exact u5_); (case aS => exact fV); (case aL => have := LMc14.out; omega); intro v244 w15 ho hb hg hat; rw [← Ny243.out] at ho; replace HB := am_ (hb); have HO245 := am_ (ho); clear HO_3 ho hb hg hat))
         go_roundg k2
         case measure => have := HK1.out; have := HK2.out; omega
         case rel => exact ⟨(y243), (x5_2), u1_, H', ⟨ly⟩, ⟨by (with_reducible repeat (first | apply Kd.R_alloc | apply Kd.R_drewN | apply Kd.R_drew)); exact HO245.out⟩, ⟨bw_ HB⟩⟩
       ·replace H := ht_ H; have H' := am_ H; clear H; obtain ⟨p7, q7⟩ := pq_ x5_2 a0.size; have hx7 := bZ a0 x5_2; obtain ⟨p7, q7⟩ := tt_ p7 q7; go_wp2_with (first | (go_at_call 181; (with_reducible refine (dI.calls (bt a0 x5_2) true _ A8.out).mono ?_); rintro e w' ⟨rfl, ⟨nd, rfl⟩⟩))
        go_roundg k2
        case measure => have := HK1.out; have := HK2.out; omega
        case rel => exact ⟨(wrap64 (x5_2 + 1)), u1_, H', ⟨ly⟩, ⟨u5_⟩, ⟨bw_ HB⟩⟩
      ·rw [if_neg c5] at H; have c5b0 := decide_eq_false c5; clear c5; by_cases c16 : x5_2 = x4_1
       ·rw [if_pos c16] at H; have c16b0 := db c16; have c16b1 := dd c16; clear c16; have H' := am_ H; clear H; go_wp2; go_roundg k2
        case measure => have := HK1.out; have := HK2.out; omega
        case rel => exact ⟨(x3_1), (wrap64 (x4_1 + 1)), u1_, H', ⟨ly⟩, ⟨u5_⟩, ⟨bw_ HB⟩⟩
       ·rw [if_neg c16] at H; have c16b0 := da c16; have c16b1 := dc c16; obtain ⟨c17b0, c17b1, H⟩ := ge_ H; obtain ⟨c18b0, c18b1, H⟩ := ge_ H; obtain ⟨c19b0, c19b1, H⟩ := ge_ H; obtain ⟨LMc20, H⟩ := gl_ H; generalize hy246 : ((x3_1 ++ [(⟨a0.extract (x4_1 : Int).toNat (x5_2 : Int).toNat, x4_1, x5_2⟩ : S90)]) : List (S90)) = y246 at H; have Ny246 := am_ hy246.symm; clear hy246; have H' := am_ H; clear H; go_wp2_with (first | ((with_reducible refine ca (b := .append) (xs := #[.tmp 29, .tmp 37]) rfl ?_); at_builtin; refine Kd.R_append k90 (w0 := w) w.heap.size rfl (.tmp 29) (.tmp 37) 87 90 (.agg #[(.string ⟨#[]⟩), (.int .i64 0), (.int .i64 0)]) 32 rfl Tryz.underlying87 mi rfl bC aA u3 x3_1 (⟨a0.extract (x4_1 : Int).toNat (x5_2 : Int).toNat, x4_1, x5_2⟩ : S90) [.string (a0.extract (x4_1 : Int).toNat (x5_2 : Int).toNat), .int .i64 x4_1, .int .i64 x5_2] (fun _ => True) (fun _ => False) rfl rfl ?aP (fun _ hk => hk.elim) ?aF ?aO ?aB ?aS ?aL ?_; (case aP => exact jU _ _ _ (⟨a0.extract (x4_1 : Int).toNat (x5_2 : Int).toNat, x4_1, x5_2⟩ : S90)); (case aB => exact fM); (case aF => exact ln); (case aO => exact u5_); (case aS => exact fV); (case aL => have := LMc20.out; omega); intro v247 w21 ho hb hg hat; rw [← Ny246.out] at ho; replace HB := am_ (hb); have HO248 := am_ (ho); clear HO_3 ho hb hg hat))
        go_roundg k2
        case measure => have := HK1.out; have := HK2.out; omega
        case rel => exact ⟨(y246), (x5_2), u1_, H', ⟨ly⟩, ⟨by (with_reducible repeat (first | apply Kd.R_alloc | apply Kd.R_drewN | apply Kd.R_drew)); exact HO248.out⟩, ⟨bw_ HB⟩⟩
   ·rw [if_neg c4] at H; have c4b0 := decide_eq_false c4; clear c4; obtain rfl := si_ H; go_wp2; go_ret
    exact ⟨_, u0_, u5_, bw_ HB⟩
def bQ.l0 : Nat → List ByteArray → List (S90) → Int → Option (List ByteArray)
 | 0, _, _, _ => none
 | k + 1, x3, x4, x5 => if x5 < (x4.length : Int) then (if 0 ≤ x5 then ((bn.f k ((dv x4 x5).f0)).bind fun t256 => (if x3.length < 8796093022208 then (bQ.l0 k (x3 ++ [t256]) x4 (wrap64 (x5 + 1))) else (none))) else (none)) else (some x3)
def bQ.f (k : Nat) (a0 : ByteArray) : Option (List ByteArray) := (aT.f k a0).bind fun t252 => (bQ.l0 k (([] : List ByteArray)) t252 0)
theorem bQ.mono_l : ∀ k, M3 bQ.l0 k
 | 0 => ⟨cU⟩
 | k + 1 => by have _ := bQ.mono_l k; exact ⟨by intros; unfold bQ.l0; exact mo_⟩
instance bQ.mono (k : Nat) : M1 bQ.f k := ⟨by have _ := bQ.mono_l k; intros; unfold bQ.f; exact mo_⟩
theorem bQ.calls (k : Nat) (a0 : ByteArray) (r : List ByteArray) (w : World) (h : bQ.f k a0 = some r) :
  Calls Tryz.prog 141 #[.string a0] w fun e w' => ∃ v0_ : Value, e = .returned (v0_) ∧ Kd.R Kd.string 9 w' w.heap.size (fun _ => True) v0_ r ∧ Below w.heap.size w w' := by
 have HB := am_ (Below.refl w.heap.size w); have H := h; clear h; unfold bQ.f at H
 obtain ⟨y249, hy249⟩ : ∃ y_ : List ByteArray, y_ = (([] : List ByteArray)) := ⟨_, rfl⟩; replace H : ((aT.f k a0).bind fun t252 => (bQ.l0 k y249 t252 0)) = some r := by first | (rw [hy249]; with_reducible exact H) | (have H2_ := (Option.bind_some _ _).symm.trans H; rw [hy249]; with_reducible exact H2_) | (have H2_ := (Option.bind_some _ _).symm.trans H; with_reducible exact H2_) | with_reducible exact H | (rw [hy249]; exact H) | exact H
 have Ny249 := am_ hy249; clear hy249; obtain ⟨t252, A2, H⟩ := bi_ H; have H' := am_ H; clear H; go_enter Tryz.func141, Tryz.ntmps141
 go_wp2_with (first | ((with_reducible refine aX (N := 6) rfl ?_); refine Kd.R_lit Kd.string _ 9 ?hg (N := 6) ?hd (xs := ([] : List ByteArray)) (inner := []) (ok := fun _ => True) (okp := fun _ => True) ?hr ?hp (fun _ hk => hk) trivial (Below.refl _ _) (Nat.le_refl _) dg ?_; (case hd => rfl); (case hg => rfl); (case hr => exact cx); (case hp => exact ji); intro v250 w3 ho4 hb hg_ hnew_; clear hg_ hnew_; (first | rw [← Ny249.out] at ho4 | (simp only [Int.reduceToNat] at ho4; rw [← Ny249.out] at ho4)); have HO251 := am_ (Kd.R_lower ho4 (aq (bw_ HB))); replace HB := bs_ HB hb; clear hb ho4) | ((with_reducible refine gt_ 8 ?_); refine gf_ 8 Tryz.func161 (aT.calls k a0 t252 _ A2.out) ?_; rintro e w5 ⟨v253, rfl, ho0, hb⟩; refine ⟨_, rfl, ?_⟩; replace HO251 := am_ (Kd.R_below u121_ hb); have HO254 := am_ (Kd.R_lower ho0 (aq (bw_ HB))); replace HB := bs_ HB hb; (try clear hb); (try clear ho0)))
 go_loopg [3, 5] k (fun kq v3 v5 w' => ∃ (x3_1 : List ByteArray) (x5_1 : Int), v5 = .int .i64 x5_1 ∧ aa (bQ.l0 kq x3_1 t252 x5_1 = some r) ∧ aa (kq ≤ k) ∧ aa (Kd.R Kd.string 9 w' w.heap.size (fun _ => True) v3 x3_1) ∧ aa (Kd.R k90 90 w' w.heap.size (fun _ => True) v253 t252) ∧ aa (Below w.heap.size w w'))
 case atStart => exact ⟨(y249), (0), u1_, H', ⟨Nat.le_refl _⟩, ⟨u121_⟩, ⟨by (with_reducible repeat (first | apply Kd.R_alloc | apply Kd.R_drewN | apply Kd.R_drew)); exact HO254.out⟩, ⟨bw_ HB⟩⟩
 case round =>
  clear H'; obtain ⟨x3_1, x5_1, rfl, HA, HK1, HO_3, HO_4, HB⟩ := hrel; cases gk with
  | zero => exact absurd HA.out (by simp [bQ.l0])
  | succ k1 =>
   have H := HA.out; clear HA; simp only [bQ.l0] at H; by_cases c6 : x5_1 < (t252.length : Int)
   ·rw [if_pos c6] at H; have c6b0 := decide_eq_true c6; clear c6; obtain ⟨c7b0, H⟩ := gd_ H; obtain ⟨t256, A8, H⟩ := bi_ H; obtain ⟨LMc9, H⟩ := gl_ H; generalize hy257 : ((x3_1 ++ [t256]) : List ByteArray) = y257 at H; have Ny257 := am_ hy257.symm; clear hy257; have H' := am_ H; clear H; obtain ⟨Ao10, co10, eo10⟩ := Kd.R_slice HO_4.out; subst eo10; obtain ⟨ad255, e255, hx255_0, hx255_1, hx255_2⟩ := rt (Kd.R_reads' HO_4.out).2.2 x5_1 od_ od_; cases e255; obtain ⟨p255, q255⟩ := pt_ x5_1 t252.length; go_wp2_with (first | ((with_reducible refine gt_ 21 ?_); refine gB_ 21 Tryz.func47 (bn.calls k1 ((dv t252 x5_1).f0) t256 _ A8.out) ?_; intro w11 hb; replace HO_3 := am_ (Kd.R_below u5_ hb); replace HO_4 := am_ (Kd.R_below u57_ hb); replace HB := bs_ HB hb; (try clear hb)) | ((with_reducible refine ca (b := .append) (xs := #[.tmp 15, .tmp 22]) rfl ?_); at_builtin; refine Kd.R_append Kd.string (w0 := w) w.heap.size rfl (.tmp 15) (.tmp 22) 30 9 (.string ⟨#[]⟩) 16 rfl Tryz.underlying30 eM rfl bC aA u3 x3_1 t256 [.string t256] (fun _ => True) (fun _ => False) rfl rfl ?aP (fun _ hk => hk.elim) ?aF ?aO ?aB ?aS ?aL ?_; (case aP => exact rfl); (case aB => exact fM); (case aF => exact ln); (case aO => exact u5_); (case aS => exact fV); (case aL => have := LMc9.out; omega); intro v258 w12 ho hb hg hat; rw [← Ny257.out] at ho; replace HO_4 := am_ (Kd.R_over' u57_ (Kd.R_typed u5_) bC hg); replace HB := am_ (hb); have HO259 := am_ (ho); clear HO_3 ho hb hg hat))
    go_roundg k1
    case measure => have := HK1.out; omega
    case rel => exact ⟨(y257), (wrap64 (x5_1 + 1)), u1_, H', ⟨du⟩, ⟨by (with_reducible repeat (first | apply Kd.R_alloc | apply Kd.R_drewN | apply Kd.R_drew)); exact HO259.out⟩, ⟨u57_⟩, ⟨bw_ HB⟩⟩
   ·rw [if_neg c6] at H; have c6b0 := decide_eq_false c6; clear c6; obtain rfl := si_ H; obtain ⟨Ao13, co13, eo13⟩ := Kd.R_slice HO_4.out; subst eo13; go_wp2; go_ret
    exact ⟨_, u0_, u5_, bw_ HB⟩
end Go.Proofs.YtnjjdojonflckaaGreatDoor.PFnExactIndexOk
