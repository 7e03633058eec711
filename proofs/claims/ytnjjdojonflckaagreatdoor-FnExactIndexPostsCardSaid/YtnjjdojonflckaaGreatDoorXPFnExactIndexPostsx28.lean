/- Contracts of Go functions, each told as a plain Lean function. -/
import Derived.Test.YtnjjdojonflckaaGreatDoorXPFnExactIndexPostsx27
namespace Go.Proofs.YtnjjdojonflckaaGreatDoor.PFnExactIndexPosts
open Go.RowKit Go.Proofs.YtnjjdojonflckaaGreatDoorW.PrintWords Go.Proofs.YtnjjdojonflckaaGreatDoorW.PrintLast Go.Proofs.YtnjjdojonflckaaGreatDoorW.PrintMore
attribute [local go_sem] a6 aZ bV bY cr co bw bv bQ bX
set_option linter.unusedVariables false
set_option linter.unusedSimpArgs false
set_option maxHeartbeats 8000000
set_option maxRecDepth 100000
section
open Go
set_option maxHeartbeats 8000000
set_option maxRecDepth 100000
def fq : List Int → Int → List Int
 | [], _ => []
 | _ :: xs, a => a :: fq xs (wrap64 (a + 1))
theorem lO : ∀ (xs : List Int) (a : Int), (fq xs a).length = xs.length
 | [], _ => rfl
 | _ :: xs, a => by rw [fq, List.length_cons, List.length_cons, lO xs]
def eJ : List S50 → Int → List S50
 | [], _ => []
 | p :: ps, a => ⟨a, fq p.f1 (wrap64 (a + 1))⟩ :: eJ ps (j9 p.f1.length (wrap64 (a + 1)))
theorem eE : ∀ (ps : List S50) (a : Int), (eJ ps a).length = ps.length
 | [], _ => rfl
 | p :: ps, a => by rw [eJ, List.length_cons, List.length_cons, eE ps]
theorem oT {base : Nat} {ok : Nat → Prop} {v : Value} (l : List Int) (a : Int) (w : World) (h : Kd.R (Kd.int .i64) 3 w base ok v l) (hn : l.length ≤ 9223372036854775807) :
  Calls Tryz.prog 81 #[v, .int .i64 a] w fun e w' => e = .returned (.int .i64 (j9 l.length a)) ∧ Kd.R (Kd.int .i64) 3 w' base ok v (fq l a) ∧ w.grownBy w' v.ownBlock := by
 obtain ⟨A, c, rfl⟩ := Kd.R_slice h; have HO := am_ h; clear h; go_enter Tryz.func81, Tryz.ntmps81
 go_wp2; go_loopw [1, 5] (fun v1 v5 wr => ∃ (x : Int) (d m : List Int), v1 = .int .i64 x ∧ v5 = .int .i64 (d.length : Int) ∧ d.length + m.length = l.length ∧ aa (d ++ fq m x = fq l a ∧ j9 m.length x = j9 l.length a) ∧ aa (Kd.R (Kd.int .i64) 3 wr base ok (.slice A l.length c) (d ++ m)) ∧ aa (w.grownBy wr (Value.slice A l.length c).ownBlock)) (fun _ v _ => match v with | .int _ i => l.length - i.toNat | _ => 0)
 case atStart => exact ⟨a, [], l, rfl, rfl, cw, ⟨rfl, rfl⟩, HO, ⟨World.grownBy.refl _ _⟩⟩
 case round =>
  clear HO; obtain ⟨x, d, m, rfl, rfl, hl, HE, HO, HG⟩ := hrel; cases m with
  | nil =>
   have p1 : ((d.length : Int) < (l.length : Int)) = False := eq_false (by simp at hl; omega); go_wp2; go_ret
   have e := HE.out.1; rw [fq, List.append_nil] at e; exact ⟨by rw [← HE.out.2]; rfl, by have := HO.out; rw [List.append_nil, e] at this; exact this, HG.out⟩
  | cons y m =>
   simp only [List.length_cons] at hl; have p1 : ((d.length : Int) < (l.length : Int)) = True := eq_true u7_; have p0 : (0 ≤ (d.length : Int)) = True := eq_true u7_; obtain ⟨g, cap, e, hbase, hlt, _⟩ := Kd.R_form HO.out kc; injection e with e1 e2 e3
   subst e1; obtain ⟨hc, hz⟩ := Kd.R_celln (0 : Int) HO.out (d.length : Int) u7_ u7_; obtain ⟨hP, hg⟩ := Kd.R_putg HO.out (d.length : Int) x; rw [Int.toNat_natCast] at hc hz hP hg; have HP := am_ hP; have HQ := am_ hg; clear hP hg e2 e3 hbase hlt; go_wp2; refine ⟨⟨_, d ++ [x], m, rfl, cw, kc, ⟨?_, ?_⟩, ⟨?_⟩, ⟨?_⟩⟩, kc⟩
   ·rw [← HE.out.1, fq, List.append_assoc]; rfl
   ·rw [← HE.out.2]; rfl
   ·have := HP.out; rw [List.set_append_right (h := Nat.le_refl _), Nat.sub_self, List.set_cons_zero] at this; rw [List.append_assoc]; exact this
   ·exact World.grownBy.trans HG.out HQ.out
theorem sr {w : World} {base : Nat} {ok : Nat → Prop} {v : Value} {ps : List S50} (h : Kd.S k50 50 w base ok v ps) (n : Nat) (p : S50) (hp : ps[n]? = some p) :
  ∃ g cap A c, ∃ oki : Nat → Prop, v = .slice (some ⟨g, 0, none⟩) ps.length cap ∧ ok g ∧ base ≤ g ∧ w.cell? ⟨g, n * 2, none⟩ = some (.int .i64 p.f0) ∧ w.frozen? ⟨g, n * 2, none⟩ = false ∧ w.cell? ⟨g, n * 2 + 1, none⟩ = some (.slice A p.f1.length c) ∧ w.frozen? ⟨g, n * 2 + 1, none⟩ = false ∧ p.f1.length ≤ c ∧ (∀ k, oki k → ok k) ∧
   ∀ (x : Int), (Kd.int .i64).R 3 (w.setCell ⟨g, n * 2, none⟩ (.int .i64 x)) base oki (.slice A p.f1.length c) p.f1 ∧
    ∀ (w2 : World) (xs : List Int), (w.setCell ⟨g, n * 2, none⟩ (.int .i64 x)).grownBy w2 (Value.slice A p.f1.length c).ownBlock → (Kd.int .i64).R 3 w2 base oki (.slice A p.f1.length c) xs → Kd.S k50 50 w2 base ok v (ps.set n ⟨x, xs⟩) := by
 have hlt : n < ps.length := (List.getElem?_eq_some_iff.1 hp).1; obtain ⟨g, cap, rfl, hbase, hgl, hcells⟩ := Kd.S_form h u7_; have hokg : ok g := (Kd.S_R h).1 g (by simp [Value.ownBlock]); obtain ⟨oki, c, hcl, hM, hcc, hfr, hoki, hH⟩ := Kd.S_elem h z50 (n : Int) u7_ u7_; have hget : ps.getD ((n : Int)).toNat z50 = p := by simp [List.getD_eq_getElem?_getD, hp]
 rw [hget] at hM; obtain ⟨u, rfl, hu⟩ := ga hM; obtain ⟨A, cu, rfl⟩ := Kd.R_slice hu; have e2 : k50.sz = 2 := rfl; have hc0 := hcc 0 _ rfl; have hc1 := hcc 1 _ rfl; have hf0 := hfr 0; have hf1 := hfr 1; simp only [e2, Int.toNat_natCast, Nat.add_zero] at hc0 hc1 hf0 hf1; refine ⟨g, cap, A, cu, oki, rfl, hokg, hbase, hc0, hf0, hc1, hf1, (Kd.R_reads' hu).2.1, fun k hk => (hoki k hk).1, fun x => ?_⟩; have hseg := Kd.H_seg hH u7_ u7_ (seg := [.int .i64 x]) (j := 0) (by show 0 + 1 ≤ 2; omega) (fun q hq => by rw [List.mem_singleton.1 hq]; rfl); simp only [e2, Int.toNat_natCast, Nat.add_zero] at hseg; have hR1 : (Kd.int .i64).R 3 (w.setCell ⟨g, n * 2, none⟩ (.int .i64 x)) base oki (.slice A p.f1.length cu) p.f1 := Kd.R_far (p := ⟨g, n * 2, none⟩) hu (fun k hk => (hoki k hk).2) _; refine ⟨hR1, fun w2 xs hg hR => ?_⟩; have hH2 := Kd.H_grown hseg.1 hg (fun k hk => hR1.1 k hk); have hb := Kd.H_back hH2 (x' := (⟨x, xs⟩ : S50)) (okp := oki) (fW w2 base oki (⟨x, xs⟩ : S50) hR) (fun _ hk => hk); rw [Int.toNat_natCast] at hb; exact hb
theorem lG.calls (P : Nat → Prop) (v : Value) (l : List S50) (a : Int) (b : Nat) (w0 w : World) (hb : b ≤ w0.heap.size) (hB : Below b w0 w) (h : Kd.S k50 50 w b P v l) (hL : l.length ≤ 9223372036854775807) (hn : ∀ p ∈ l, p.f1.length ≤ 9223372036854775807) :
  Calls Tryz.prog 34 #[v, .int .i64 a] w fun e w' => e = .returned (.int .i64 (mkP (l.map fun p => p.f1.length) a)) ∧ Kd.S k50 50 w' b P v (eJ l a) ∧ Below b w0 w' ∧ Kept w w' P := by
 have hu50 := Tryz.underlying50; obtain ⟨A, c, rfl⟩ := Kd.S_slice h; have HO := am_ h; have HB := am_ hB; have Hb := am_ hb; have HN := am_ hn; clear h hB hn hb; go_enter Tryz.func34, Tryz.ntmps34
 go_wp2; go_loopw [1, 5] (fun v1 v5 wr => ∃ (x : Int) (d m : List S50), v1 = .int .i64 x ∧ v5 = .int .i64 (d.length : Int) ∧ d.length + m.length = l.length ∧ aa (d ++ eJ m x = eJ l a ∧ mkP (m.map fun p => p.f1.length) x = mkP (l.map fun p => p.f1.length) a ∧ ∀ p ∈ m, p.f1.length ≤ 9223372036854775807) ∧ aa (Kd.S k50 50 wr b P (.slice A l.length c) (d ++ m)) ∧ aa (Below b w0 wr) ∧ aa (Kept w wr P)) (fun _ v _ => match v with | .int _ i => l.length - i.toNat | _ => 0)
 case atStart => exact ⟨a, [], l, rfl, rfl, cw, ⟨rfl, rfl, HN.out⟩, HO, HB, ⟨Kept.refl _ _⟩⟩
 case round =>
  clear HO HB; obtain ⟨x, d, m, rfl, rfl, hl, HE, HO, HB, HK⟩ := hrel; cases m with
  | nil =>
   have p1 : ((d.length : Int) < (l.length : Int)) = False := eq_false (by simp at hl; omega); go_wp2; go_ret
   have e := HE.out.1; rw [eJ, List.append_nil] at e; exact ⟨by rw [← HE.out.2.1]; rfl, by have := HO.out; rw [List.append_nil, e] at this; exact this, HB.out, HK.out⟩
  | cons y m =>
   simp only [List.length_cons] at hl; have p1 : ((d.length : Int) < (l.length : Int)) = True := eq_true u7_; have p0 : (0 ≤ (d.length : Int)) = True := eq_true u7_; obtain ⟨g, cap, A2, c2, oki, e, hokg, hbase, hc, hz, hc2, hz2, hcl, hoki, hst⟩ := sr HO.out d.length y cw; injection e with e1 e2 e3
   subst e1; obtain ⟨hR, hback⟩ := hst x; have HR := am_ hR; have HS := am_ hback; have HI := am_ hoki; have HN1 := am_ (HE.out.2.2 y (List.mem_cons_self ..)); have HC := am_ (Kept.setCell HK.out (p := ⟨g, d.length * 2, none⟩) (.inl hokg) (.int .i64 x)); replace HB := am_ (Below.setCell HB.out (p := ⟨g, d.length * 2, none⟩) hbase (.int .i64 x)); clear hR hback e2 e3 hokg hbase hcl hst hoki HK; go_wp2_with (first | (go_at_call 81; (with_reducible refine (oT (v := .slice A2 y.f1.length c2) y.f1 _ _ HR.out HN1.out).mono ?_); rintro e w1 ⟨rfl, hr, hg⟩; have HS2 := am_ (HS.out w1 _ hg hr); replace HB := am_ (Below.grown HB.out hg (Nat.le_trans Hb.out HB.out.size) (fun k hk => Kd.R_base HR.out k hk)); replace HC := am_ (Kept.of_grown hg HC.out (fun k hk => .inl (HI.out k (HR.out.1 k hk)))); clear hr hg))
   refine ⟨⟨_, d ++ [⟨x, fq y.f1 (wrap64 (x + 1))⟩], m, rfl, cw, kc, ⟨?_, ?_, fun p hp => HE.out.2.2 p (List.mem_cons_of_mem _ hp)⟩, ⟨?_⟩, HB, HC⟩, kc⟩
   ·rw [← HE.out.1, eJ, List.append_assoc]; rfl
   ·rw [← HE.out.2.1]; rfl
   ·have := HS2.out; rw [List.set_append_right (h := Nat.le_refl _), Nat.sub_self, List.set_cons_zero] at this; rw [List.append_assoc]; exact this
end
def bN.l0 : Nat → List Int → Int → Int → Option (Int)
 | 0, _, _, _ => none
 | k + 1, x0, x1, x5 => if x5 < (x0.length : Int) then (if 0 ≤ x5 then (if (rd x0 x5) = x1 then (bN.l0 k x0 (wrap64 (x1 + 1)) (wrap64 (x5 + 1))) else (some (-1))) else (none)) else (some x1)
def bN.f (k : Nat) (l0 : List Int) (a1 : Int) : Option (Int) := bN.l0 k l0 a1 0
theorem bN.calls (k : Nat) (A0 : Option Addr) (c0 : Nat) (l0 : List Int) (a1 : Int) (r : Int) (w : World) (hr0 : Kd.C (Kd.int .i64) w A0 l0.length l0) (hc0 : l0.length ≤ c0) (h : bN.f k l0 a1 = some r) :
  Calls Tryz.prog 82 #[.slice A0 l0.length c0, .int .i64 a1] w fun e w' => e = .returned (.int .i64 r) ∧ Drawn0 w w' := by
 have HR0 := am_ hr0; have HC0 := am_ hc0; clear hr0 hc0; have H := h; clear h; unfold bN.f at H
 have H' := am_ H; clear H; go_enter Tryz.func82, Tryz.ntmps82
 go_wp2; go_loopg [1, 5] k (fun kq v1 v5 w' => ∃ (x1_1 : Int) (x5_1 : Int), v1 = .int .i64 x1_1 ∧ v5 = .int .i64 x5_1 ∧ aa (bN.l0 kq l0 x1_1 x5_1 = some r) ∧ aa (kq ≤ k) ∧ Drawn0 w w')
 case atStart => exact ⟨(a1), (0), u1_, u1_, H', ⟨Nat.le_refl _⟩, u3_⟩
 case round =>
  clear H'; obtain ⟨x1_1, x5_1, rfl, rfl, HA, HK1, ⟨m1, rfl⟩⟩ := hrel; cases gk with
  | zero => exact absurd HA.out (by simp [bN.l0])
  | succ k1 =>
   have H := HA.out; clear HA; simp only [bN.l0] at H; by_cases c3 : x5_1 < (l0.length : Int)
   ·rw [if_pos c3] at H; have c3b0 := decide_eq_true c3; clear c3; obtain ⟨c4b0, H⟩ := gd_ H; have HC_ := am_ H; clear H; obtain ⟨ad582, e582, hx582_0⟩ := Kd.at_int HR0.out x5_1 od_ od_; cases e582; obtain ⟨p582, q582⟩ := pt_ x5_1 l0.length; have H := HC_.out; clear HC_; by_cases c5 : (rd l0 x5_1) = x1_1
    ·rw [if_pos c5] at H; have c5b0 := cU c5; have c5b1 := cS c5; clear c5; have H' := am_ H; clear H; (first | rw [c5b0] | (simp only [aq, av]; rw [c5b0]) | skip)
     go_wp2; go_roundg k1
     case measure => have := HK1.out; omega
     case rel => exact ⟨(wrap64 (x1_1 + 1)), (wrap64 (x5_1 + 1)), u1_, u1_, H', ⟨dk⟩, u3_⟩
    ·rw [if_neg c5] at H; have c5b0 := cT c5; have c5b1 := cV c5; obtain rfl := si_ H; (first | rw [c5b0] | (simp only [aq, av]; rw [c5b0]) | skip)
     go_wp2; go_ret
     exact ⟨u4_, u3_⟩
   ·rw [if_neg c3] at H; have c3b0 := decide_eq_false c3; clear c3; obtain rfl := si_ H; go_wp2; go_ret
    exact ⟨u4_, u3_⟩
def bA.l0 : Nat → List (S50) → Int → Int → Option (Int)
 | 0, _, _, _ => none
 | k + 1, x0, x1, x5 => if x5 < (x0.length : Int) then (if 0 ≤ x5 then (if ((ak x0 x5).f0) = x1 then ((bN.f k ((ak x0 x5).f1) (wrap64 (x1 + 1))).bind fun t585 => (if t585 < 0 then (some (-1)) else (bA.l0 k x0 t585 (wrap64 (x5 + 1))))) else (some (-1))) else (none)) else (some x1)
def bA.f (k : Nat) (l0 : List (S50)) (a1 : Int) : Option (Int) := bA.l0 k l0 a1 0
theorem bA.calls (k : Nat) (A0 : Option Addr) (c0 : Nat) (l0 : List (S50)) (a1 : Int) (r : Int) (w : World) (hr0 : Kd.C k50 w A0 l0.length l0) (hc0 : l0.length ≤ c0) (h : bA.f k l0 a1 = some r) :
  Calls Tryz.prog 35 #[.slice A0 l0.length c0, .int .i64 a1] w fun e w' => e = .returned (.int .i64 r) ∧ Drawn0 w w' := by
 have HR0 := am_ hr0; have HC0 := am_ hc0; clear hr0 hc0; have H := h; clear h; unfold bA.f at H
 have H' := am_ H; clear H; go_enter Tryz.func35, Tryz.ntmps35
 go_wp2; go_loopg [1, 5] k (fun kq v1 v5 w' => ∃ (x1_1 : Int) (x5_1 : Int), v1 = .int .i64 x1_1 ∧ v5 = .int .i64 x5_1 ∧ aa (bA.l0 kq l0 x1_1 x5_1 = some r) ∧ aa (kq ≤ k) ∧ Drawn0 w w')
 case atStart => exact ⟨(a1), (0), u1_, u1_, H', ⟨Nat.le_refl _⟩, u3_⟩
 case round =>
  clear H'; obtain ⟨x1_1, x5_1, rfl, rfl, HA, HK1, ⟨m1, rfl⟩⟩ := hrel; cases gk with
  | zero => exact absurd HA.out (by simp [bA.l0])
  | succ k1 =>
   have H := HA.out; clear HA; simp only [bA.l0] at H; by_cases c3 : x5_1 < (l0.length : Int)
   ·rw [if_pos c3] at H; have c3b0 := decide_eq_true c3; clear c3; obtain ⟨c4b0, H⟩ := gd_ H; have HC_ := am_ H; clear H; obtain ⟨ad583, A583_1, c583_1, e583, hx583_0, hx583_1, hl583_1, hi583_1⟩ := fP HR0.out x5_1 od_ od_; cases e583; have HR583_1 := am_ hi583_1; have HC583_1 := am_ hl583_1; clear hi583_1 hl583_1; obtain ⟨p583, q583⟩ := pt_ x5_1 l0.length; have H := HC_.out; clear HC_; by_cases c5 : ((ak l0 x5_1).f0) = x1_1
    ·rw [if_pos c5] at H; have c5b0 := cU c5; have c5b1 := cS c5; clear c5; obtain ⟨t585, A6, H⟩ := bi_ H; have HC_ := am_ H; clear H; (first | rw [c5b0] | (simp only [aq, av]; rw [c5b0]) | skip)
     obtain ⟨ad584, A584_1, c584_1, e584, hx584_0, hx584_1, hl584_1, hi584_1⟩ := fP HR0.out x5_1 od_ od_; obtain rfl : ad583 = ad584 := (by injection e584); have HR584_1 := am_ hi584_1; have HC584_1 := am_ hl584_1; clear hi584_1 hl584_1; obtain ⟨p584, q584⟩ := pt_ x5_1 l0.length; have ea_ := Option.some.inj (hx583_1.symm.trans hx584_1); injection ea_ with ea_ en_ ec_
     subst ea_; subst ec_; clear en_; have H := HC_.out; clear HC_; by_cases c7 : t585 < 0
     ·rw [if_pos c7] at H; have c7b0 := decide_eq_true c7; clear c7; obtain rfl := si_ H; (first | rw [c7b0] | (simp only [aq, av]; rw [c7b0]) | skip)
      go_wp2_with (first | ((with_reducible refine gt_ 27 ?_); refine gD_ 27 Tryz.func82 (bN.calls k1 _ _ ((ak l0 x5_1).f1) (wrap64 (x1_1 + 1)) t585 _ ?side1 HC584_1.out A6.out) ?_; (case side1 => exact u64_); intro nd))
      go_ret
      exact ⟨u4_, u3_⟩
     ·rw [if_neg c7] at H; have c7b0 := decide_eq_false c7; clear c7; have H' := am_ H; clear H; (first | rw [c7b0] | (simp only [aq, av]; rw [c7b0]) | skip)
      go_wp2_with (first | ((with_reducible refine gt_ 27 ?_); refine gD_ 27 Tryz.func82 (bN.calls k1 _ _ ((ak l0 x5_1).f1) (wrap64 (x1_1 + 1)) t585 _ ?side1 HC584_1.out A6.out) ?_; (case side1 => exact u64_); intro nd))
      go_roundg k1
      case measure => have := HK1.out; omega
      case rel => exact ⟨(t585), (wrap64 (x5_1 + 1)), u1_, u1_, H', ⟨dk⟩, u3_⟩
    ·rw [if_neg c5] at H; have c5b0 := cT c5; have c5b1 := cV c5; obtain rfl := si_ H; (first | rw [c5b0] | (simp only [aq, av]; rw [c5b0]) | skip)
     go_wp2; go_ret
     exact ⟨u4_, u3_⟩
   ·rw [if_neg c3] at H; have c3b0 := decide_eq_false c3; clear c3; obtain rfl := si_ H; go_wp2; go_ret
    exact ⟨u4_, u3_⟩
section
open Go
def bC.f (k : Nat) (l0_0 : List d9) (l0_1 : List dX) (l0_2 : List dZ) (a0_3 : Int) (a1 a2 : ByteArray) : Option Bool :=
 if (a1.size : Int) > 1048576 then some true else if (a2.size : Int) > 1048576 then some true else
 (dC.f k l0_0 l0_1 l0_2 a0_3 1048576).bind fun t => if t < 0 then some true else
 (di.f k l0_0 l0_1 l0_2 a0_3).bind fun x =>
 (dm.f k x.1 x.2.1 x.2.2.1 x.2.2.2 a1 a2).bind fun p =>
 (aj.f k x.1 x.2.1 x.2.2.1 x.2.2.2 a1 a2).bind fun g =>
 (aG.f k g p).bind fun b1 =>
 (dR.f k x.1 x.2.1 x.2.2.1 x.2.2.2 x.1 x.2.1 x.2.2.1 x.2.2.2).bind fun b2 =>
 (dG.f k x.1 x.2.1 x.2.2.1 x.2.2.2 1).bind fun m =>
 (bA.f k (eJ g 1) 1).bind fun q =>
 if b1 = true ∧ b2 = true ∧ (0 ≤ m) ∧ 0 ≤ q ∧ q = mkP (g.map fun p => p.f1.length) 1 ∧ g.length ≤ 9223372036854775807 ∧ ∀ p ∈ g, p.f1.length ≤ 9223372036854775807 then some true else none
theorem st4_ {b w : World} {g : Nat} {u0 u1 u2 u3 : Value} (h : Below b.heap.size b w) (hg : b.heap.size ≤ g) : Below b.heap.size b ((((w.setCell ⟨g, 0, none⟩ u0).setCell ⟨g, 1, none⟩ u1).setCell ⟨g, 2, none⟩ u2).setCell ⟨g, 3, none⟩ u3) :=
 bo (bo (bo (bo h hg) hg) hg) hg
theorem bk9_ {w : World} {g t : Nat} {v0 v1 v2 v3 u0 u1 u2 u3 : Value} (h : w.heap[g]? = some (.cells #[v0, v1, v2, v3] t (0, 0))) : ((((w.setCell ⟨g, 0, none⟩ u0).setCell ⟨g, 1, none⟩ u1).setCell ⟨g, 2, none⟩ u2).setCell ⟨g, 3, none⟩ u3).heap[g]? = some (.cells #[u0, u1, u2, u3] t (0, 0)) :=
 hY (hY (hY (hY h 0 u0 rfl) 1 u1 rfl) 2 u2 rfl) 3 u3 rfl
theorem fo {b c w : World} (h : aa (Below b.heap.size b c)) (k : aa (Below c.heap.size c w)) : aa (Below b.heap.size b w) := ⟨bD h.out k.out⟩
theorem kP_ {α : Type} {d : Kd α} {e base n c : Nat} {ok : Nat → Prop} {w w1 : World} {A : Option Addr} {xs : List α} (h : aa (Kd.S d e w base ok (.slice A n c) xs)) (hB : aa (Below w.heap.size w w1)) : d.C w1 A xs.length xs ∧ xs.length ≤ c := by
 obtain ⟨rfl, h1, h2⟩ := Kd.S_reads' h.out; exact ⟨Kd.C_below h2 hB.out, h1⟩
theorem kQ_ {α : Type} {d : Kd α} {e base n c : Nat} {ok : Nat → Prop} {w w1 : World} {A : Option Addr} {xs : List α} (h : aa (Kd.R d e w base ok (.slice A n c) xs)) (hB : aa (Below w.heap.size w w1)) : d.C w1 A xs.length xs ∧ xs.length ≤ c := by
 obtain ⟨rfl, h1, h2⟩ := Kd.R_reads' h.out; exact ⟨Kd.C_below h2 hB.out, h1⟩
theorem keepS_ {α : Type} {d : Kd α} {e B : Nat} {ok : Nat → Prop} {w w1 w2 : World} {v : Value} {xs : List α} (h : aa (Kd.S d e w B ok v xs)) (hB : aa (Below w.heap.size w w1)) (hk : Kept w1 w2 (fun k_ => k_ < B)) : Kd.S d e w2 B ok v xs :=
 Kd.S_mono (Kd.S_step (Kd.S_bound (Kd.S_below h.out hB.out)) (fun k h_ hl => hk.2 k hl (Nat.not_lt.2 h_.2.1))) (fun _ h_ => h_.1)
theorem px_ {α : Type} {d : Kd α} {e b : Nat} {ok : Nat → Prop} {w w1 : World} {v : Value} {xs : List α} (h : Kd.R d e w b ok v xs) (hB : aa (Below w.heap.size w w1)) : Kd.R d e w1 b (fun k => k < w.heap.size) v xs := Kd.R_below (Kd.R_mono (Kd.R_bound h) fun k hk => hk.2.2.1) hB.out
theorem jY (k : Nat) (A : Option Addr) (n c : Nat) (l : List S50) (a r : Int) (w : World) (hn : l.length = n) (hr : Kd.C k50 w A l.length l ∧ l.length ≤ c) (h : bA.f k l a = some r) :
  Calls Tryz.prog 35 #[.slice A n c, .int .i64 a] w fun e w' => e = .returned (.int .i64 r) ∧ Below w.heap.size w w' := by
 subst hn; refine (bA.calls k A c l a r w hr.1 hr.2 h).mono ?_; rintro e w' ⟨he, nd, rfl⟩; exact ⟨he, aw (Below.refl _ _) nd⟩
theorem lw_ {b w w2 : World} {B : Nat} (h : aa (Below b.heap.size b w)) (hB : b.heap.size ≤ B) (k : Below B w w2) : aa (Below b.heap.size b w2) := ⟨h.out.trans (k.mono hB)⟩
theorem bC.calls (k : Nat) (A0_0 : Option Addr) (c0_0 : Nat) (l0_0 : List d9) (A0_1 : Option Addr) (c0_1 : Nat) (l0_1 : List dX) (A0_2 : Option Addr) (c0_2 : Nat) (l0_2 : List dZ) (a0_3 : Int) (a1 : ByteArray) (a2 : ByteArray) (r : Bool) (w : World) (hG : StopsIn w) (hr0_0 : Kd.C ob w A0_0 l0_0.length l0_0) (hc0_0 : l0_0.length ≤ c0_0) (hr0_1 : Kd.C nQ w A0_1 l0_1.length l0_1) (hc0_1 : l0_1.length ≤ c0_1) (hr0_2 : Kd.C n7 w A0_2 l0_2.length l0_2) (hc0_2 : l0_2.length ≤ c0_2) (h : bC.f k l0_0 l0_1 l0_2 a0_3 a1 a2 = some r) :
  Calls Tryz.prog 7 #[.agg #[.slice A0_0 l0_0.length c0_0, .slice A0_1 l0_1.length c0_1, .slice A0_2 l0_2.length c0_2, .int .i64 a0_3], .string a1, .string a2] w fun e w' => e = .returned (.bool r) ∧ Below w.heap.size w w' := by
 have hu56 := Tryz.underlying56; have hu27 := Tryz.underlying27; have HG_ := am_ hG; have HR0_0 := am_ hr0_0; have HC0_0 := am_ hc0_0; have HR0_1 := am_ hr0_1; have HC0_1 := am_ hc0_1; have HR0_2 := am_ hr0_2; have HC0_2 := am_ hc0_2; clear hG hr0_0 hc0_0 hr0_1 hc0_1 hr0_2 hc0_2; have HB := am_ (Below.refl w.heap.size w); unfold bC.f at h
 by_cases c1 : (a1.size : Int) > 1048576
 ·rw [if_pos c1] at h; have c1b0 : decide (1048576 < (a1.size : Int)) = true := decide_eq_true c1; have c1b1 : decide (1048576 < a1.size) = true := decide_eq_true u7_; clear c1; obtain rfl := si_ h; go_enter Tryz.func7, Tryz.ntmps7
  go_wp2_with (first | ((with_reducible refine gt_ 3 ?_); refine bx_ 3 #[.slice A0_0 l0_0.length c0_0, .slice A0_1 l0_1.length c0_1, .slice A0_2 l0_2.length c0_2, .int .i64 a0_3] 56 ?_; intro g3 hg w1 hbox hb; replace HB := bs_ HB hb; clear hb hbox hg))
  go_ret
  exact ⟨rfl, HB.out⟩
 rw [if_neg c1] at h; have c1b0 : decide (1048576 < (a1.size : Int)) = false := decide_eq_false c1; have c1b1 : decide (1048576 < a1.size) = false := decide_eq_false u7_; clear c1; by_cases c2 : (a2.size : Int) > 1048576
 ·rw [if_pos c2] at h; have c2b0 : decide (1048576 < (a2.size : Int)) = true := decide_eq_true c2; have c2b1 : decide (1048576 < a2.size) = true := decide_eq_true u7_; clear c2; obtain rfl := si_ h; go_enter Tryz.func7, Tryz.ntmps7
  go_wp2_with (first | ((with_reducible refine gt_ 3 ?_); refine bx_ 3 #[.slice A0_0 l0_0.length c0_0, .slice A0_1 l0_1.length c0_1, .slice A0_2 l0_2.length c0_2, .int .i64 a0_3] 56 ?_; intro g3 hg w1 hbox hb; replace HB := bs_ HB hb; clear hb hbox hg))
  go_ret
  exact ⟨rfl, HB.out⟩
 rw [if_neg c2] at h; have c2b0 : decide (1048576 < (a2.size : Int)) = false := decide_eq_false c2; have c2b1 : decide (1048576 < a2.size) = false := decide_eq_false u7_; clear c2; obtain ⟨t, A1, h⟩ := bi_ h; by_cases c3 : t < 0
 ·rw [if_pos c3] at h; have c3b0 := decide_eq_true c3; clear c3; obtain rfl := si_ h; go_enter Tryz.func7, Tryz.ntmps7
  go_wp2_with (first | ((with_reducible refine gt_ 3 ?_); refine bx_ 3 #[.slice A0_0 l0_0.length c0_0, .slice A0_1 l0_1.length c0_1, .slice A0_2 l0_2.length c0_2, .int .i64 a0_3] 56 ?_; intro g3 hg w1 hbox hb; replace HB := bs_ HB hb; obtain ⟨z0, z1, z2, z3, y0, y1, y2, y3⟩ := ch hbox; clear hb hbox hg) | ((with_reducible refine gt_ 23 ?_); refine gB_ 23 Tryz.func23 (dC.calls k _ _ l0_0 _ _ l0_1 _ _ l0_2 a0_3 1048576 t _ (kc_ HR0_0 HB) HC0_0.out (kc_ HR0_1 HB) HC0_1.out (kc_ HR0_2 HB) HC0_2.out A1.out) ?_; intro w2 hb; replace HB := bs_ HB hb; clear hb))
  go_ret
  exact ⟨rfl, HB.out⟩
 rw [if_neg c3] at h; have c3b0 := decide_eq_false c3; clear c3; obtain ⟨⟨f1, r1, e1, n1⟩, A2, h⟩ := bi_ h; dsimp only at h; obtain ⟨p, A3, h⟩ := bi_ h; obtain ⟨g, A4, h⟩ := bi_ h; obtain ⟨q1, A5, h⟩ := bi_ h; obtain ⟨q2, A6, h⟩ := bi_ h; obtain ⟨m, A7, h⟩ := bi_ h; obtain ⟨q, A8, h⟩ := bi_ h; obtain ⟨⟨rfl, rfl, hm, hq, hqe, hgl, hgp⟩, h2⟩ := gn_ h; obtain rfl := si_ h2; clear h h2; have c4b0 : decide (m < 0) = false := decide_eq_false u7_; have HL := am_ hgl; have HN := am_ hgp; clear hm hgl hgp; go_enter Tryz.func7, Tryz.ntmps7
 go_upto_region 9 with (first | ((with_reducible refine gt_ 3 ?_); refine bx_ 3 #[.slice A0_0 l0_0.length c0_0, .slice A0_1 l0_1.length c0_1, .slice A0_2 l0_2.length c0_2, .int .i64 a0_3] 56 ?_; intro g3 hg w1 hbox hb; have BK := am_ hbox; have H1 := am_ (Below.refl w1.heap.size w1); replace HB := bs_ HB hb; obtain ⟨z0, z1, z2, z3, y0, y1, y2, y3⟩ := ch hbox; clear hb hbox hg) | ((with_reducible refine gt_ 23 ?_); refine gB_ 23 Tryz.func23 (dC.calls k _ _ l0_0 _ _ l0_1 _ _ l0_2 a0_3 1048576 t _ (kc_ HR0_0 HB) HC0_0.out (kc_ HR0_1 HB) HC0_1.out (kc_ HR0_2 HB) HC0_2.out A1.out) ?_; intro w2 hb; replace HB := bs_ HB hb; replace H1 := bs_ H1 hb; clear z0 z1 z2 z3 y0 y1 y2 y3 hb))
 obtain ⟨z0, z1, z2, z3, y0, y1, y2, y3⟩ := ch (a7 BK.out H1.out); go_upto_region 10 with (first | ((with_reducible refine gt_ 27 ?_); refine gf_ 27 Tryz.func24 (di.calls k _ _ l0_0 _ _ l0_1 _ _ l0_2 a0_3 f1 r1 e1 n1 _ (kc_ HR0_0 HB) HC0_0.out (kc_ HR0_1 HB) HC0_1.out (kc_ HR0_2 HB) HC0_2.out A2.out) ?_; rintro e w3 ⟨v0, v1, v2, rfl, ho0, ho1, ho2, hb⟩; refine ⟨_, rfl, ?_⟩; obtain ⟨X0, d0, rfl⟩ := Kd.R_slice ho0; obtain ⟨X1, d1, rfl⟩ := Kd.S_slice ho1; obtain ⟨X2, d2, rfl⟩ := Kd.R_slice ho2; have HX0 := am_ ho0; have HX1 := am_ ho1; have HX2 := am_ ho2; have HX := am_ (Below.refl w3.heap.size w3); replace HB := bs_ HB hb; replace H1 := bs_ H1 hb; clear z0 z1 z2 z3 y0 y1 y2 y3 hb ho0 ho1 ho2) | ((with_reducible refine gt_ 30 ?_); refine gf_ 30 Tryz.func17 (dm.calls k _ _ f1 _ _ r1 _ _ e1 n1 a1 a2 p _ (kQ_ HX0 HX).1 (kQ_ HX0 HX).2 (kP_ HX1 HX).1 (kP_ HX1 HX).2 (kQ_ HX2 HX).1 (kQ_ HX2 HX).2 A3.out) ?_; rintro e w4 ⟨v0, rfl, ho0, hb⟩; refine ⟨_, rfl, ?_⟩; obtain ⟨AP, cP, rfl⟩ := Kd.S_slice ho0; have HP := am_ ho0; have HQ := am_ (Below.refl w4.heap.size w4); replace HB := bs_ HB hb; replace H1 := bs_ H1 hb; have HB4 := HB; have H14 := H1; clear hb ho0 HX0 HX1 HX2 HX))
 obtain ⟨z0, z1, z2, z3, y0, y1, y2, y3⟩ := ch (a7 BK.out H1.out); go_upto_region 11 with (first | ((with_reducible refine gt_ 32 ?_); refine gf_ 32 Tryz.func24 (di.calls k _ _ l0_0 _ _ l0_1 _ _ l0_2 a0_3 f1 r1 e1 n1 _ (kc_ HR0_0 HB) HC0_0.out (kc_ HR0_1 HB) HC0_1.out (kc_ HR0_2 HB) HC0_2.out A2.out) ?_; rintro e w5 ⟨v0, v1, v2, rfl, ho0, ho1, ho2, hb⟩; refine ⟨_, rfl, ?_⟩; obtain ⟨X0, d0, rfl⟩ := Kd.R_slice ho0; obtain ⟨X1, d1, rfl⟩ := Kd.S_slice ho1; obtain ⟨X2, d2, rfl⟩ := Kd.R_slice ho2; have HX0 := am_ ho0; have HX1 := am_ ho1; have HX2 := am_ ho2; have HX := am_ (Below.refl w5.heap.size w5); replace HB := bs_ HB hb; replace H1 := bs_ H1 hb; replace HQ := bs_ HQ hb; have HB5 := HB; have H15 := H1; have HQ5 := HQ; clear z0 z1 z2 z3 y0 y1 y2 y3 hb ho0 ho1 ho2) | ((with_reducible refine gt_ 9 ?_); refine bx_ 9 #[.slice none 0 0, .slice none 0 0, .slice none 0 0, .int .i64 0] 27 ?_; intro g9 hg w6 hbox hb; have BX := am_ hbox; have HG9 := am_ hg; replace HX := bs_ HX hb; obtain ⟨z0, z1, z2, z3, y0, y1, y2, y3⟩ := ch hbox; clear hb hbox hg))
 have hge : w5.heap.size ≤ g9 := by rw [HG9.out]; exact Nat.le_refl _
 have HX' := am_ (st4_ (u0 := .slice X0 f1.length d0) (u1 := .slice X1 r1.length d1) (u2 := .slice X2 e1.length d2) (u3 := .int .i64 n1) HX.out hge); have BX' := am_ (bk9_ (u0 := .slice X0 f1.length d0) (u1 := .slice X1 r1.length d1) (u2 := .slice X2 e1.length d2) (u3 := .int .i64 n1) BX.out); clear HX BX z0 z1 z2 z3 y0 y1 y2 y3 hge HG9; have HX := HX'; have BX := BX'; clear HX' BX'; generalize ((((w6.setCell ⟨g9, 0, none⟩ (.slice X0 f1.length d0)).setCell ⟨g9, 1, none⟩ (.slice X1 r1.length d1)).setCell ⟨g9, 2, none⟩ (.slice X2 e1.length d2)).setCell ⟨g9, 3, none⟩ (.int .i64 n1)) = w7 at HX BX ⊢; obtain ⟨z0, z1, z2, z3, y0, y1, y2, y3⟩ := ch BX.out; go_upto_region 14 with (first | ((with_reducible refine gt_ 36 ?_); refine gf_ 36 Tryz.func14 (aj.calls k _ _ f1 _ _ r1 _ _ e1 n1 a1 a2 g _ (StopsIn.below HG_.out (fo HB HX).out) (kQ_ HX0 HX).1 (kQ_ HX0 HX).2 (kP_ HX1 HX).1 (kP_ HX1 HX).2 (kQ_ HX2 HX).1 (kQ_ HX2 HX).2 A4.out) ?_; rintro e w8 ⟨v0, rfl, ho0, hb⟩; refine ⟨_, rfl, ?_⟩; obtain ⟨AG, cG, rfl⟩ := Kd.S_slice ho0; have HGo := am_ (Kd.S_lower ho0 HX.out.size); have HGg := am_ (Below.refl w8.heap.size w8); have H9 := am_ hb; replace HX := bs_ HX hb; clear z0 z1 z2 z3 y0 y1 y2 y3 hb ho0) | ((with_reducible refine gt_ 39 ?_); refine gB_ 39 Tryz.func33 (aG.calls k _ _ g _ _ p true _ (kP_ HGo HGg).1 (kP_ HGo HGg).2 (kP_ HP (fo HQ HX)).1 (kP_ HP (fo HQ HX)).2 A5.out) ?_; intro w9 hb; replace HX := bs_ HX hb; replace HGg := bs_ HGg hb; replace H9 := bs_ H9 hb; clear hb))
 replace HX := am_ (aT HX.out); replace HGg := am_ (aT HGg.out); replace H9 := am_ (aT H9.out); obtain ⟨z0, z1, z2, z3, -⟩ := ch (a7 BX.out H9.out); obtain ⟨y0, y1, y2, y3, -⟩ := ch (a7 BK.out (fo H1 HX).out); refine de (n := 5) (S := fun w' => w'.cell? ⟨g9, 0, none⟩ = some (.slice X0 f1.length d0) ∧ w'.cell? ⟨g9, 1, none⟩ = some (.slice X1 r1.length d1) ∧ w'.cell? ⟨g9, 2, none⟩ = some (.slice X2 e1.length d2) ∧ w'.cell? ⟨g9, 3, none⟩ = some (.int .i64 n1) ∧ w'.cell? ⟨g3, 0, none⟩ = some (.slice A0_0 l0_0.length c0_0) ∧ w'.cell? ⟨g3, 1, none⟩ = some (.slice A0_1 l0_1.length c0_1) ∧ w'.cell? ⟨g3, 2, none⟩ = some (.slice A0_2 l0_2.length c0_2) ∧ w'.cell? ⟨g3, 3, none⟩ = some (.int .i64 a0_3)) (ds := []) (bm_ 5 0) cn rfl rfl ⟨z0, z1, z2, z3, y0, y1, y2, y3⟩ (fun hHeld => ?_); clear z0 z1 z2 z3 y0 y1 y2 y3; generalize w9.drew = w10 at HX HGg H9 hHeld ⊢; refine take_ (i := 0) (N := some 41) (v := ?_) (a' := ?_) (bm_ 5 1) rfl rfl cn (fun _ _ _ h => h) (Or.inl ⟨cL, ?_⟩) hHeld ?_ ?_; rotate_left
 ·rintro w' ⟨s0, s1, s2, s3, s4, s5, s6, s7⟩; go_simp; with_reducible rfl
 rotate_left
 ·exact u44_
 refine take_ (i := 1) (N := some 42) (v := ?_) (a' := ?_) (bm_ 5 3) rfl rfl cn (fun _ _ _ h => h) (Or.inl ⟨cL, ?_⟩) hHeld ?_ ?_; rotate_left
 ·rintro w' ⟨s0, s1, s2, s3, s4, s5, s6, s7⟩; go_simp; with_reducible rfl
 rotate_left
 ·exact u44_
 refine one_ (i := 2) (N := some 43) (bm_ 5 7) rfl rfl cn bh (fun K hK => ?_); refine go_ Tryz.func24 (di.calls k _ _ l0_0 _ _ l0_1 _ _ l0_2 a0_3 f1 r1 e1 n1 _ (kc_ HR0_0 (fo HB HX)) HC0_0.out (kc_ HR0_1 (fo HB HX)) HC0_1.out (kc_ HR0_2 (fo HB HX)) HC0_2.out A2.out) ?_; rintro e w11 ⟨v0, v1, v2, rfl, ho0, ho1, ho2, hb⟩; refine ⟨_, rfl, ?_⟩; obtain ⟨Y0, i0, rfl⟩ := Kd.R_slice ho0; obtain ⟨Y1, i1, rfl⟩ := Kd.S_slice ho1; obtain ⟨Y2, i2, rfl⟩ := Kd.R_slice ho2; have HY0 := am_ ho0; have HY1 := am_ ho1; have HY2 := am_ ho2; have HY := am_ (Below.refl w11.heap.size w11); replace HX := bs_ HX hb; replace HGg := bs_ HGg hb; replace H9 := bs_ H9 hb; clear ho0 ho1 ho2 hb hHeld; obtain ⟨z0, z1, z2, z3, -⟩ := ch (a7 BX.out H9.out); obtain ⟨y0, y1, y2, y3, -⟩ := ch (a7 BK.out (fo H1 HX).out); refine hK.out _ _ ⟨z0, z1, z2, z3, y0, y1, y2, y3⟩ (fun hHeld => ?_); clear hK K z0 z1 z2 z3 y0 y1 y2 y3; refine nm_ ?_; refine one_ (i := 3) (N := some 44) (bm_ 5 15) rfl rfl cn bh (fun K hK => ?_); refine oB_ Tryz.func26 (dR.calls k _ _ f1 _ _ r1 _ _ e1 n1 _ _ f1 _ _ r1 _ _ e1 n1 true _ (kQ_ HX0 HX).1 (kQ_ HX0 HX).2 (kP_ HX1 HX).1 (kP_ HX1 HX).2 (kQ_ HX2 HX).1 (kQ_ HX2 HX).2 (kQ_ HY0 HY).1 (kQ_ HY0 HY).2 (kP_ HY1 HY).1 (kP_ HY1 HY).2 (kQ_ HY2 HY).1 (kQ_ HY2 HY).2 A6.out) ?_; intro w12 hb; replace HX := bs_ HX hb; replace HGg := bs_ HGg hb; replace H9 := bs_ H9 hb; clear hb hHeld HY0 HY1 HY2 HY; obtain ⟨z0, z1, z2, z3, -⟩ := ch (a7 BX.out H9.out); obtain ⟨y0, y1, y2, y3, -⟩ := ch (a7 BK.out (fo H1 HX).out); refine hK.out _ _ ⟨z0, z1, z2, z3, y0, y1, y2, y3⟩ (fun hHeld => ?_); clear hK K z0 z1 z2 z3 y0 y1 y2 y3 hHeld; refine nm_ ?_; refine rH (i := 4) (N := some 45) (v := ?_) (a' := ?_) (bm_ 5 31) rfl rfl cn (fun _ _ _ h => h) (Or.inl ⟨cL, ?_⟩) ?_ ?_; rotate_left
 ·intro w'; go_simp; with_reducible rfl
 rotate_left
 ·exact u44_
 refine done_ cn ?_; obtain ⟨z0, z1, z2, z3, y0, y1, y2, y3⟩ := ch (a7 BX.out H9.out); go_upto_region 18 with (first | ((with_reducible refine gt_ 48 ?_); refine gf_ 48 Tryz.func30 (dG.calls k (fun k_ => k_ < w5.heap.size) _ _ _ f1 r1 e1 n1 1 m w4 _ (fo HQ HX).out (px_ HX0.out HX) (px_ (Kd.S_R HX1.out) HX) (px_ HX2.out HX) A7.out) ?_; rintro e w13 ⟨rfl, hb, hk⟩; refine ⟨_, rfl, ?_⟩; have HG2 := am_ (keepS_ HGo HGg hk); replace HB := fo HB4 ⟨hb⟩; replace H1 := fo H14 ⟨hb⟩; replace HQ := am_ hb; have HS5 := am_ (Nat.le_trans HX.out.size hk.1); clear HX HX0 HX1 HX2 HGo HGg H9 BX z0 z1 z2 z3 y0 y1 y2 y3 hb hk; have HGo := HG2; have HGg := am_ (Below.refl w13.heap.size w13); clear HG2))
 go_upto_region 21 with (first | (go_at_call 33; (with_reducible refine (aG.calls k _ _ g _ _ p true _ (kP_ HGo HGg).1 (kP_ HGo HGg).2 (kP_ HP HQ).1 (kP_ HP HQ).2 A5.out).mono ?_); rintro e w14 ⟨rfl, hb⟩; replace HB := bs_ HB hb; replace H1 := bs_ H1 hb; replace HQ := bs_ HQ hb; replace HGg := bs_ HGg hb; replace HS5 := am_ (Nat.le_trans HS5.out hb.size); clear hb))
 have c5b0 : decide (q < 0) = false := decide_eq_false u7_; have c6b0 := cS hqe; clear hq hqe; have L0 : w.heap.size ≤ w5.heap.size := HB5.out.size; have L1 : w1.heap.size ≤ w5.heap.size := H15.out.size; have L4 : w4.heap.size ≤ w5.heap.size := HQ5.out.size; have LL := am_ (And.intro L0 (And.intro L1 L4)); clear L0 L1 L4; go_upto_region 28 with (first | ((with_reducible refine gt_ 59 ?_); refine gf_ 59 Tryz.func34 (lG.calls (fun k_ => w5.heap.size ≤ k_) (.slice AG g.length cG) g 1 w5.heap.size _ _ HS5.out (Below.refl _ _) (Kd.S_mono (Kd.S_bound (Kd.S_below HGo.out HGg.out)) (fun _ h_ => h_.2.1)) HL.out HN.out) ?_; rintro e w15 ⟨rfl, ho0, hb, hk⟩; refine ⟨_, rfl, ?_⟩; replace HB := lw_ HB LL.out.1 hb; replace H1 := lw_ H1 LL.out.2.1 hb; replace HQ := lw_ HQ LL.out.2.2 hb; clear HGo HGg; have HGo := am_ ho0; have HGg := am_ (Below.refl w15.heap.size w15); clear ho0 hb hk) | ((with_reducible refine gt_ 62 ?_); refine gB_ 62 Tryz.func35 (jY k AG g.length cG (eJ g 1) 1 q _ (eE g 1) (kP_ HGo HGg) A8.out) ?_; intro w16 hb; replace HB := bs_ HB hb; replace H1 := bs_ H1 hb; replace HQ := bs_ HQ hb; replace HGg := bs_ HGg hb; clear hb))
 obtain ⟨z0, z1, z2, z3, y0, y1, y2, y3⟩ := ch (a7 BK.out H1.out); go_wp2_with (first | ((with_reducible refine gt_ 69 ?_); refine gf_ 69 Tryz.func24 (di.calls k _ _ l0_0 _ _ l0_1 _ _ l0_2 a0_3 f1 r1 e1 n1 _ (kc_ HR0_0 HB) HC0_0.out (kc_ HR0_1 HB) HC0_1.out (kc_ HR0_2 HB) HC0_2.out A2.out) ?_; rintro e w17 ⟨v0, v1, v2, rfl, ho0, ho1, ho2, hb⟩; refine ⟨_, rfl, ?_⟩; obtain ⟨Y0, i0, rfl⟩ := Kd.R_slice ho0; obtain ⟨Y1, i1, rfl⟩ := Kd.S_slice ho1; obtain ⟨Y2, i2, rfl⟩ := Kd.R_slice ho2; have HY0 := am_ ho0; have HY1 := am_ ho1; have HY2 := am_ ho2; have HY := am_ (Below.refl w17.heap.size w17); replace HB := bs_ HB hb; replace HQ := bs_ HQ hb; replace HGg := bs_ HGg hb; clear z0 z1 z2 z3 y0 y1 y2 y3 ho0 ho1 ho2 hb) | ((with_reducible refine gt_ 72 ?_); refine gf_ 72 Tryz.func14 (aj.calls k _ _ f1 _ _ r1 _ _ e1 n1 a1 a2 g _ (StopsIn.below HG_.out HB.out) (kQ_ HY0 HY).1 (kQ_ HY0 HY).2 (kP_ HY1 HY).1 (kP_ HY1 HY).2 (kQ_ HY2 HY).1 (kQ_ HY2 HY).2 A4.out) ?_; rintro e w18 ⟨v0, rfl, ho0, hb⟩; refine ⟨_, rfl, ?_⟩; obtain ⟨AH, cH, rfl⟩ := Kd.S_slice ho0; have HZ := am_ ho0; have HZz := am_ (Below.refl w18.heap.size w18); replace HB := bs_ HB hb; replace HQ := bs_ HQ hb; replace HGg := bs_ HGg hb; clear ho0 hb HY0 HY1 HY2 HY) | ((with_reducible refine gt_ 75 ?_); refine gB_ 75 Tryz.func33 (aG.calls k _ _ g _ _ p true _ (kP_ HZ HZz).1 (kP_ HZ HZz).2 (kP_ HP HQ).1 (kP_ HP HQ).2 A5.out) ?_; intro w19 hb; replace HB := bs_ HB hb; replace HGg := bs_ HGg hb; clear hb) | ((with_reducible refine gt_ 79 ?_); refine gB_ 79 Tryz.func35 (jY k AG g.length cG (eJ g 1) 1 q _ (eE g 1) (kP_ HGo HGg) A8.out) ?_; intro w20 hb; replace HB := bs_ HB hb; clear hb))
 go_ret
 exact ⟨rfl, HB.out⟩
end
end Go.Proofs.YtnjjdojonflckaaGreatDoor.PFnExactIndexPosts
