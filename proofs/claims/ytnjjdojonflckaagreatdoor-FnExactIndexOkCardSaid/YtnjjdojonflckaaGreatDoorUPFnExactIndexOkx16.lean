/- Contracts of Go functions, each told as a plain Lean function. -/
import Derived.Test.YtnjjdojonflckaaGreatDoorUPFnExactIndexOkx14
import Derived.Test.YtnjjdojonflckaaGreatDoorUPFnExactIndexOkx11
namespace Go.Proofs.YtnjjdojonflckaaGreatDoor.PFnExactIndexOk
open Go.RowKit Go.Proofs.YtnjjdojonflckaaGreatDoorW.PrintWords Go.Proofs.YtnjjdojonflckaaGreatDoorW.PrintLast Go.Proofs.YtnjjdojonflckaaGreatDoorW.PrintMore
attribute [local go_sem] bH bF cm cn cK cI b5 b4 ck cl
set_option linter.unusedVariables false
set_option linter.unusedSimpArgs false
set_option maxHeartbeats 8000000
set_option maxRecDepth 100000
mutual
def az.l0 : Nat → List (S92) → List ByteArray → List (S92) → Int → Int → Option (Bool)
 | 0, _, _, _, _, _ => none
 | k + 1, x0, x3, x8, x9, x10 => if x10 < x9 then (if 0 ≤ x10 then (if x10 < (x8.length : Int) then (if ((ar x8 x10).f1) = 1 then ((bc.f ((ar x8 x10).f2) 1 9).bind fun t400 => (az.j1 k x0 x3 t400 x8 x9 x10 ((ar x8 x10).f0) ((ar x8 x10).f1) ((ar x8 x10).f2))) else (az.j1 k x0 x3 (((ar x8 x10).f2) == 0) x8 x9 x10 ((ar x8 x10).f0) ((ar x8 x10).f1) ((ar x8 x10).f2))) else (none)) else (none)) else ((bc.f (x0.length : Int) 1 4).bind fun t397 => (some t397))
def az.j1 : Nat → List (S92) → List ByteArray → Bool → List (S92) → Int → Int → ByteArray → Int → Int → Option (Bool)
 | 0, _, _, _, _, _, _, _, _, _ => none
 | k + 1, x0, x3, x6, x8, x9, x10, x400000, x400001, x400002 => (aw.f k x400000).bind fun t401 => (if t401 = true then ((ao.f k x3 x400000).bind fun t402 => (if t402 = true then (some false) else ((bc.f x400001 1 3).bind fun t403 => (if t403 = true then (if x6 = true then (if x3.length < 8796093022208 then (az.l0 k x0 (x3 ++ [x400000]) x8 x9 (wrap64 (x10 + 1))) else (none)) else (some false)) else (some false))))) else (some false))
end
def az.f (k : Nat) (l0 : List (S92)) : Option (Bool) := az.l0 k l0 (([] : List ByteArray)) l0 (l0.length : Int) 0
theorem az.mono_l : ∀ k, M5 az.l0 k ∧ M9 az.j1 k
 | 0 => ⟨⟨cU⟩, ⟨cU⟩⟩
 | k + 1 => by obtain ⟨_, _⟩ := az.mono_l k; exact ⟨⟨by intros; unfold az.l0; exact mo_⟩, ⟨by intros; unfold az.j1; exact mo_⟩⟩
instance az.mono (k : Nat) : M1 az.f k := ⟨by obtain ⟨_, _⟩ := az.mono_l k; intros; unfold az.f; exact mo_⟩
theorem az.calls (k : Nat) (A0 : Option Addr) (c0 : Nat) (l0 : List (S92)) (r : Bool) (w : World) (hr0 : Kd.C k92 w A0 l0.length l0) (hc0 : l0.length ≤ c0) (h : az.f k l0 = some r) :
  Calls Tryz.prog 63 #[.slice A0 l0.length c0] w fun e w' => e = .returned (.bool r) ∧ Below w.heap.size w w' := by
 have hu92 := Tryz.underlying92; have HR0 := am_ hr0; have HC0 := am_ hc0; clear hr0 hc0; have HB := am_ (Below.refl w.heap.size w); have H := h; clear h; unfold az.f at H
 obtain ⟨y394, hy394⟩ : ∃ y_ : List ByteArray, y_ = (([] : List ByteArray)) := ⟨_, rfl⟩; replace H : (az.l0 k l0 y394 l0 (l0.length : Int) 0) = some r := by first | (rw [hy394]; with_reducible exact H) | (have H2_ := (Option.bind_some _ _).symm.trans H; rw [hy394]; with_reducible exact H2_) | (have H2_ := (Option.bind_some _ _).symm.trans H; with_reducible exact H2_) | with_reducible exact H | (rw [hy394]; exact H) | exact H
 have Ny394 := am_ hy394; clear hy394; have H' := am_ H; clear H; go_enter Tryz.func63, Tryz.ntmps63
 go_wp2_with (first | ((with_reducible refine aX (N := 7) rfl ?_); refine Kd.R_lit Kd.string _ 9 ?hg (N := 7) ?hd (xs := ([] : List ByteArray)) (inner := []) (ok := fun _ => True) (okp := fun _ => True) ?hr ?hp (fun _ hk => hk) trivial (Below.refl _ _) (Nat.le_refl _) dg ?_; (case hd => rfl); (case hg => rfl); (case hr => exact cx); (case hp => exact ji); intro v395 w2 ho3 hb hg_ hnew_; clear hg_ hnew_; (first | rw [← Ny394.out] at ho3 | (simp only [Int.reduceToNat] at ho3; rw [← Ny394.out] at ho3)); have HO396 := am_ (Kd.R_lower ho3 (aq (bw_ HB))); replace HB := bs_ HB hb; clear hb ho3))
 go_loopg [3, 10] k (fun kq v3 v10 w' => ∃ (x3_1 : List ByteArray) (x10_1 : Int), v10 = .int .i64 x10_1 ∧ aa (az.l0 kq l0 x3_1 l0 (l0.length : Int) x10_1 = some r) ∧ aa (kq ≤ k) ∧ aa (Kd.R Kd.string 9 w' w.heap.size (fun _ => True) v3 x3_1) ∧ aa (Below w.heap.size w w'))
 case atStart => exact ⟨(y394), (0), u1_, H', ⟨Nat.le_refl _⟩, ⟨by (with_reducible repeat (first | apply Kd.R_alloc | apply Kd.R_drewN | apply Kd.R_drew)); exact HO396.out⟩, ⟨bw_ HB⟩⟩
 case round =>
  clear H'; obtain ⟨x3_1, x10_1, rfl, HA, HK1, HO_3, HB⟩ := hrel; cases gk with
  | zero => exact absurd HA.out (by simp [az.l0])
  | succ k1 =>
   have H := HA.out; clear HA; simp only [az.l0] at H; by_cases c4 : x10_1 < (l0.length : Int)
   ·rw [if_pos c4] at H; have c4b0 := decide_eq_true c4; clear c4; obtain ⟨c5b0, H⟩ := gd_ H; obtain ⟨c6b0, H⟩ := gd_ H; have HC7 := am_ H; clear H; obtain ⟨ad398, e398, hx398_0, hx398_1, hx398_2⟩ := fJ HR0.out x10_1 od_ od_; cases e398; replace hx398_0 := cb_ HB hx398_0; replace hx398_1 := cb_ HB hx398_1; replace hx398_2 := cb_ HB hx398_2; obtain ⟨p398, q398⟩ := pt_ x10_1 l0.length; go_upto_if 19 with (first | (with_reducible refine gt_ 5 ?_; refine bx_ 5 #[.string (⟨#[]⟩ : ByteArray), .int .i64 0, .int .i64 0] 92 ?_; intro gb399 hg w8 hbox hb; replace HO_3 := am_ (Kd.R_below u5_ hb); have BK399 := am_ (hbox); have GE399 := gw_ HB hg; replace HB := bs_ HB hb; clear hb hbox hg; obtain ⟨hcz9_0, hcz9_1, hcz9_2, hfz9_0, hfz9_1, hfz9_2⟩ := bX BK399.out))
    (try simp only [Act.put, List.setIfInBounds_toArray, List.set_cons_zero, List.set_cons_succ])
    go_cut [6] (fun v6 wc => ∃ (kq : Nat) (x6_6 : Bool), v6 = .bool x6_6 ∧ aa (az.j1 kq l0 x3_1 x6_6 l0 (l0.length : Int) x10_1 ((ar l0 x10_1).f0) ((ar l0 x10_1).f1) ((ar l0 x10_1).f2) = some r) ∧ aa (kq ≤ k1) ∧ aa (Kd.R Kd.string 9 wc w.heap.size (fun _ => True) u3 x3_1) ∧ aa (wc.heap[gb399]? = some (.cells #[.string ((ar l0 x10_1).f0), .int .i64 ((ar l0 x10_1).f1), .int .i64 ((ar l0 x10_1).f2)] 92 (0, 0))) ∧ aa (Below w.heap.size w wc))
    case first =>
     have H := HC7.out; clear HC7; by_cases c10 : ((ar l0 x10_1).f1) = 1
     ·rw [if_pos c10] at H; have c10b0 := db c10; have c10b1 := dd c10; clear c10; (first | rw [c10b0] | (simp only [cP, dz]; rw [c10b0]) | skip)
      obtain ⟨t400, A11, H⟩ := bi_ H; have H' := am_ H; clear H; obtain ⟨hcz12_0, hcz12_1, hcz12_2, hfz12_0, hfz12_1, hfz12_2⟩ := bX BK399.out; go_wp2_with (first | ((with_reducible refine gt_ 22 ?_); refine gD_ 22 Tryz.func64 (bc.calls ((ar l0 x10_1).f2) 1 9 t400 _ A11.out) ?_; intro nd))
      go_meet
      case rel => exact ⟨_, (t400), u1_, H', ⟨u74_⟩, ⟨u134_⟩, ⟨u29_⟩, ⟨bw_ HB⟩⟩
     ·rw [if_neg c10] at H; have c10b0 := da c10; have c10b1 := dc c10; (first | rw [c10b0] | (simp only [cP, dz]; rw [c10b0]) | skip)
      have H' := am_ H; clear H; go_wp2; go_meet
      case rel => exact ⟨_, ((((ar l0 x10_1).f2) == 0)), u1_, H', ⟨u74_⟩, ⟨u134_⟩, ⟨u29_⟩, ⟨bw_ HB⟩⟩
    case rest =>
     clear HC7; try clear c4
     try clear c4b0
     try clear c5b0
     try clear c6b0
     try clear hcz9_0
     try clear hcz9_1
     try clear hcz9_2
     try clear hfz9_0
     try clear hfz9_1
     try clear hfz9_2
     try clear hx398_0
     try clear hx398_1
     try clear hx398_2
     try clear p398
     try clear q398
     obtain ⟨kq, x6_6, rfl, HA, HJ6, HO_3, BK399, HB⟩ := hcut; cases kq with
     | zero => exact absurd HA.out (by simp [az.j1])
     | succ kj6 =>
      have H := HA.out; clear HA; simp only [az.j1] at H; obtain ⟨t401, A13, H⟩ := bi_ H; cases t401
      ·replace H := hf_ H; obtain rfl := si_ H; obtain ⟨hcz30_0, hcz30_1, hcz30_2, hfz30_0, hfz30_1, hfz30_2⟩ := bX BK399.out; go_wp2_with (first | ((with_reducible refine gt_ 25 ?_); refine gD_ 25 Tryz.func108 (aw.calls kj6 ((ar l0 x10_1).f0) false _ A13.out) ?_; intro nd))
       go_ret
       exact ⟨u0_, bw_ HB⟩
      ·replace H := ht_ H; obtain ⟨t402, A15, H⟩ := bi_ H; cases t402
       ·replace H := hf_ H; obtain ⟨t403, A19, H⟩ := bi_ H; cases t403
        ·replace H := hf_ H; obtain rfl := si_ H; obtain ⟨hcz28_0, hcz28_1, hcz28_2, hfz28_0, hfz28_1, hfz28_2⟩ := bX BK399.out; go_wp2_with (first | ((with_reducible refine gt_ 25 ?_); refine gD_ 25 Tryz.func108 (aw.calls kj6 ((ar l0 x10_1).f0) true _ A13.out) ?_; intro nd; obtain ⟨Ao29, co29, eo29⟩ := Kd.R_slice HO_3.out; subst eo29) | (go_at_call 92; (with_reducible refine (ao.calls kj6 _ _ x3_1 ((ar l0 x10_1).f0) false _ ?side1 ?side2 A15.out).mono ?_); (case side1 => exact u47_); (case side2 => exact (Kd.R_reads' HO_3.out).2.1); rintro e w' ⟨rfl, ⟨nd, rfl⟩⟩) | (go_at_call 64; (with_reducible refine (bc.calls ((ar l0 x10_1).f1) 1 3 false _ A19.out).mono ?_); rintro e w' ⟨rfl, ⟨nd, rfl⟩⟩))
         go_ret
         exact ⟨u0_, bw_ HB⟩
        ·replace H := ht_ H; cases x6_6
         ·replace H := hf_ H; obtain rfl := si_ H; obtain ⟨hcz26_0, hcz26_1, hcz26_2, hfz26_0, hfz26_1, hfz26_2⟩ := bX BK399.out; go_wp2_with (first | ((with_reducible refine gt_ 25 ?_); refine gD_ 25 Tryz.func108 (aw.calls kj6 ((ar l0 x10_1).f0) true _ A13.out) ?_; intro nd; obtain ⟨Ao27, co27, eo27⟩ := Kd.R_slice HO_3.out; subst eo27) | (go_at_call 92; (with_reducible refine (ao.calls kj6 _ _ x3_1 ((ar l0 x10_1).f0) false _ ?side1 ?side2 A15.out).mono ?_); (case side1 => exact u47_); (case side2 => exact (Kd.R_reads' HO_3.out).2.1); rintro e w' ⟨rfl, ⟨nd, rfl⟩⟩) | (go_at_call 64; (with_reducible refine (bc.calls ((ar l0 x10_1).f1) 1 3 true _ A19.out).mono ?_); rintro e w' ⟨rfl, ⟨nd, rfl⟩⟩))
          go_ret
          exact ⟨u0_, bw_ HB⟩
         ·replace H := ht_ H; obtain ⟨LMc22, H⟩ := gl_ H; generalize hy404 : ((x3_1 ++ [((ar l0 x10_1).f0)]) : List ByteArray) = y404 at H; have Ny404 := am_ hy404.symm; clear hy404; have H' := am_ H; clear H; obtain ⟨hcz23_0, hcz23_1, hcz23_2, hfz23_0, hfz23_1, hfz23_2⟩ := bX BK399.out; go_wp2_with (first | ((with_reducible refine gt_ 25 ?_); refine gD_ 25 Tryz.func108 (aw.calls kj6 ((ar l0 x10_1).f0) true _ A13.out) ?_; intro nd; obtain ⟨Ao24, co24, eo24⟩ := Kd.R_slice HO_3.out; subst eo24) | (go_at_call 92; (with_reducible refine (ao.calls kj6 _ _ x3_1 ((ar l0 x10_1).f0) false _ ?side1 ?side2 A15.out).mono ?_); (case side1 => exact u47_); (case side2 => exact (Kd.R_reads' HO_3.out).2.1); rintro e w' ⟨rfl, ⟨nd, rfl⟩⟩) | (go_at_call 64; (with_reducible refine (bc.calls ((ar l0 x10_1).f1) 1 3 true _ A19.out).mono ?_); rintro e w' ⟨rfl, ⟨nd, rfl⟩⟩) | ((with_reducible refine ca (b := .append) (xs := #[.tmp 43, .tmp 46]) rfl ?_); at_builtin; refine Kd.R_append Kd.string (w0 := w) w.heap.size rfl (.tmp 43) (.tmp 46) 30 9 (.string ⟨#[]⟩) 16 rfl Tryz.underlying30 eM rfl bC aA (.slice Ao24 x3_1.length co24) x3_1 ((ar l0 x10_1).f0) [.string ((ar l0 x10_1).f0)] (fun _ => True) (fun _ => False) rfl rfl ?aP (fun _ hk => hk.elim) ?aF ?aO ?aB ?aS ?aL ?_; (case aP => exact rfl); (case aB => exact fM); (case aF => exact ln); (case aO => exact u5_); (case aS => exact fV); (case aL => have := LMc22.out; omega); intro v405 w25 ho hb hg hat; rw [← Ny404.out] at ho; replace BK399 := am_ (mc (g := gb399) (o := .cells #[.string ((ar l0 x10_1).f0), .int .i64 ((ar l0 x10_1).f1), .int .i64 ((ar l0 x10_1).f2)] 92 (0, 0)) (by (with_reducible repeat (first | refine ah ?_ _ | refine ac ?_ | refine ai ?_ _)); exact BK399.out) hg (Kd.R_ne HO_3.out BK399.out bC)); replace HB := am_ (hb); have HO406 := am_ (ho); clear HO_3 ho hb hg hat))
          go_roundg kj6
          case measure => have := HK1.out; have := HJ6.out; omega
          case rel => exact ⟨(y404), (wrap64 (x10_1 + 1)), u1_, H', ⟨by have := HK1.out; have := HJ6.out; omega⟩, ⟨by (with_reducible repeat (first | apply Kd.R_alloc | apply Kd.R_drewN | apply Kd.R_drew)); exact HO406.out⟩, ⟨bw_ HB⟩⟩
       ·replace H := ht_ H; obtain rfl := si_ H; obtain ⟨hcz17_0, hcz17_1, hcz17_2, hfz17_0, hfz17_1, hfz17_2⟩ := bX BK399.out; go_wp2_with (first | ((with_reducible refine gt_ 25 ?_); refine gD_ 25 Tryz.func108 (aw.calls kj6 ((ar l0 x10_1).f0) true _ A13.out) ?_; intro nd; obtain ⟨Ao18, co18, eo18⟩ := Kd.R_slice HO_3.out; subst eo18) | (go_at_call 92; (with_reducible refine (ao.calls kj6 _ _ x3_1 ((ar l0 x10_1).f0) true _ ?side1 ?side2 A15.out).mono ?_); (case side1 => exact u47_); (case side2 => exact (Kd.R_reads' HO_3.out).2.1); rintro e w' ⟨rfl, ⟨nd, rfl⟩⟩))
        go_ret
        exact ⟨u0_, bw_ HB⟩
   ·rw [if_neg c4] at H; have c4b0 := decide_eq_false c4; clear c4; obtain ⟨t397, A31, H⟩ := bi_ H; obtain rfl := si_ H; go_wp2_with (first | ((with_reducible refine gt_ 51 ?_); refine gD_ 51 Tryz.func64 (bc.calls (l0.length : Int) 1 4 t397 _ A31.out) ?_; intro nd))
    go_ret
    exact ⟨u0_, bw_ HB⟩
def bT.l0 : Nat → ByteArray → Int → Int → Int → Option (Bool)
 | 0, _, _, _, _ => none
 | k + 1, x0, x1, x7, x8 => if x8 < x7 then (if 0 ≤ x8 then (if x8 < (x0.size : Int) then ((bc.f (wrap64 (bt x0 x8)) 32 126).bind fun t407 => (if t407 = true then (bT.l0 k x0 x1 x7 (wrap64 (x8 + 1))) else (some false))) else (none)) else (none)) else (some (decide ((x0.size : Int) ≤ x1)))
def bT.f (k : Nat) (a0 : ByteArray) (a1 : Int) : Option (Bool) := bT.l0 k a0 a1 (a0.size : Int) 0
theorem bT.mono_l : ∀ k, M4 bT.l0 k
 | 0 => ⟨cU⟩
 | k + 1 => by have _ := bT.mono_l k; exact ⟨by intros; unfold bT.l0; exact mo_⟩
instance bT.mono (k : Nat) : M2 bT.f k := ⟨by have _ := bT.mono_l k; intros; unfold bT.f; exact mo_⟩
theorem bT.calls (k : Nat) (a0 : ByteArray) (a1 : Int) (r : Bool) (w : World) (h : bT.f k a0 a1 = some r) :
  Calls Tryz.prog 166 #[.string a0, .int .i64 a1] w fun e w' => e = .returned (.bool r) ∧ Drawn0 w w' := by
 have H := h; clear h; unfold bT.f at H
 have H' := am_ H; clear H; go_enter Tryz.func166, Tryz.ntmps166
 go_wp2; go_loopg [8] k (fun kq v8 w' => ∃ (x8_1 : Int), v8 = .int .i64 x8_1 ∧ aa (bT.l0 kq a0 a1 (a0.size : Int) x8_1 = some r) ∧ aa (kq ≤ k) ∧ Drawn0 w w')
 case atStart => exact ⟨(0), u1_, H', ⟨Nat.le_refl _⟩, u3_⟩
 case round =>
  clear H'; obtain ⟨x8_1, rfl, HA, HK1, ⟨m1, rfl⟩⟩ := hrel; cases gk with
  | zero => exact absurd HA.out (by simp [bT.l0])
  | succ k1 =>
   have H := HA.out; clear HA; simp only [bT.l0] at H; by_cases c3 : x8_1 < (a0.size : Int)
   ·rw [if_pos c3] at H; have c3b0 := decide_eq_true c3; clear c3; obtain ⟨c4b0, H⟩ := gd_ H; obtain ⟨c5b0, H⟩ := gd_ H; obtain ⟨t407, A7, H⟩ := bi_ H; cases t407
    ·replace H := hf_ H; obtain rfl := si_ H; obtain ⟨p6, q6⟩ := pq_ x8_1 a0.size; have hx6 := bZ a0 x8_1; obtain ⟨p6, q6⟩ := tt_ p6 q6; go_wp2_with (first | ((with_reducible refine gt_ 15 ?_); refine gD_ 15 Tryz.func64 (bc.calls (wrap64 (bt a0 x8_1)) 32 126 false _ A7.out) ?_; intro nd))
     go_ret
     exact ⟨u4_, u3_⟩
    ·replace H := ht_ H; have H' := am_ H; clear H; obtain ⟨p6, q6⟩ := pq_ x8_1 a0.size; have hx6 := bZ a0 x8_1; obtain ⟨p6, q6⟩ := tt_ p6 q6; go_wp2_with (first | ((with_reducible refine gt_ 15 ?_); refine gD_ 15 Tryz.func64 (bc.calls (wrap64 (bt a0 x8_1)) 32 126 true _ A7.out) ?_; intro nd))
     go_roundg k1
     case measure => have := HK1.out; omega
     case rel => exact ⟨(wrap64 (x8_1 + 1)), u1_, H', ⟨du⟩, u3_⟩
   ·rw [if_neg c3] at H; have c3b0 := decide_eq_false c3; clear c3; obtain rfl := si_ H; go_wp2; go_ret
    exact ⟨u4_, u3_⟩
def bV.f (k : Nat) (a0 : ByteArray) : Option (Bool) := (bT.f k a0 60).bind fun t408 => (some t408)
instance bV.mono (k : Nat) : M1 bV.f k := ⟨by intros; unfold bV.f; exact mo_⟩
theorem bV.calls (k : Nat) (a0 : ByteArray) (r : Bool) (w : World) (h : bV.f k a0 = some r) :
  Calls Tryz.prog 147 #[.string a0] w fun e w' => e = .returned (.bool r) ∧ Drawn0 w w' := by
 have H := h; clear h; unfold bV.f at H
 obtain ⟨t408, A2, H⟩ := bi_ H; obtain rfl := si_ H; go_enter Tryz.func147, Tryz.ntmps147
 go_wp2_with (first | ((with_reducible refine gt_ 4 ?_); refine gD_ 4 Tryz.func166 (bT.calls k a0 60 t408 _ A2.out) ?_; intro nd))
 go_ret
 exact ⟨u4_, u3_⟩
def aW.l0 : Nat → List (S86) → Int → Int → ByteArray → List (S86) → Option (Bool)
 | 0, _, _, _, _, _ => none
 | k + 1, x6, x7, x8, x410000, x410001 => if x8 < x7 then (if 0 ≤ x8 then (if x8 < (x6.length : Int) then ((aw.f k ((ak x6 x8).f0)).bind fun t413 => (if t413 = true then ((bV.f k ((ak x6 x8).f1)).bind fun t414 => (if t414 = true then (if x8 > 0 then (if 0 ≤ (wrap64 (x8 - 1)) then (if (wrap64 (x8 - 1)) < (x410001.length : Int) then (if ((Op.bytesLess (((ak x410001 (wrap64 (x8 - 1))).f0).toList) (((ak x6 x8).f0).toList)) = true) then (aW.l0 k x6 x7 (wrap64 (x8 + 1)) x410000 x410001) else (some false)) else (none)) else (none)) else (aW.l0 k x6 x7 (wrap64 (x8 + 1)) x410000 x410001)) else (some false))) else (some false))) else (none)) else (none)) else ((aw.f k x410000).bind fun t410 => (if t410 = true then (some (decide ((x410001.length : Int) ≤ 4))) else (some false)))
def aW.f (k : Nat) (a0_0 : ByteArray) (l0_1 : List (S86)) : Option (Bool) := aW.l0 k l0_1 (l0_1.length : Int) 0 a0_0 l0_1
theorem aW.mono_l : ∀ k, M5 aW.l0 k
 | 0 => ⟨cU⟩
 | k + 1 => by have _ := aW.mono_l k; exact ⟨by intros; unfold aW.l0; exact mo_⟩
instance aW.mono (k : Nat) : M2 aW.f k := ⟨by have _ := aW.mono_l k; intros; unfold aW.f; exact mo_⟩
theorem aW.calls (k : Nat) (a0_0 : ByteArray) (A0_1 : Option Addr) (c0_1 : Nat) (l0_1 : List (S86)) (r : Bool) (w : World) (hr0_1 : Kd.C k86 w A0_1 l0_1.length l0_1) (hc0_1 : l0_1.length ≤ c0_1) (h : aW.f k a0_0 l0_1 = some r) :
  Calls Tryz.prog 109 #[.agg #[.string a0_0, .slice A0_1 l0_1.length c0_1]] w fun e w' => e = .returned (.bool r) ∧ Below w.heap.size w w' := by
 have hu44 := Tryz.underlying44; have hu86 := Tryz.underlying86; have HR0_1 := am_ hr0_1; have HC0_1 := am_ hc0_1; clear hr0_1 hc0_1; have HB := am_ (Below.refl w.heap.size w); have H := h; clear h; unfold aW.f at H
 have H' := am_ H; clear H; go_enter Tryz.func109, Tryz.ntmps109
 go_wp2_with (first | ((with_reducible refine aX (N := 1) rfl ?_); (try (refine bh cO ?_; dsimp only)); refine bB ?hg (N := 1) ?hd (cs := #[.string a0_0, .slice A0_1 l0_1.length c0_1]) (t := 44) ?hr ?_; (case hd => rfl); (case hg => rfl); (case hr => exact cx); intro gb409 hg w2 hbox hb; have BK409 := am_ (hbox); have GE409 := gw_ HB hg; replace HB := bs_ HB hb; clear hb hbox hg; obtain ⟨hcz3_0, hcz3_1, hfz3_0, hfz3_1⟩ := bW BK409.out))
 repeat (go_quiet (first | ((with_reducible refine aX (N := 1) rfl ?_); (try (refine bh cO ?_; dsimp only)); refine bB ?hg (N := 1) ?hd (cs := #[.string a0_0, .slice A0_1 l0_1.length c0_1]) (t := 44) ?hr ?_; (case hd => rfl); (case hg => rfl); (case hr => exact cx); intro gb409 hg w2 hbox hb; have BK409 := am_ (hbox); have GE409 := gw_ HB hg; replace HB := bs_ HB hb; clear hb hbox hg; obtain ⟨hcz3_0, hcz3_1, hfz3_0, hfz3_1⟩ := bW BK409.out)); try go_wp2_with (first | ((with_reducible refine aX (N := 1) rfl ?_); (try (refine bh cO ?_; dsimp only)); refine bB ?hg (N := 1) ?hd (cs := #[.string a0_0, .slice A0_1 l0_1.length c0_1]) (t := 44) ?hr ?_; (case hd => rfl); (case hg => rfl); (case hr => exact cx); intro gb409 hg w2 hbox hb; have BK409 := am_ (hbox); have GE409 := gw_ HB hg; replace HB := bs_ HB hb; clear hb hbox hg; obtain ⟨hcz3_0, hcz3_1, hfz3_0, hfz3_1⟩ := bW BK409.out)))
 go_loopg [8] k (fun kq v8 w' => ∃ (x8_1 : Int), v8 = .int .i64 x8_1 ∧ aa (aW.l0 kq l0_1 (l0_1.length : Int) x8_1 a0_0 l0_1 = some r) ∧ aa (kq ≤ k) ∧ aa (w'.heap[gb409]? = some (.cells #[.string a0_0, (.slice A0_1 l0_1.length c0_1)] 44 (0, 0))) ∧ aa (Below w.heap.size w w'))
 case atStart => exact ⟨(0), u1_, H', ⟨Nat.le_refl _⟩, ⟨by (with_reducible repeat (first | refine ah ?_ _ | refine ac ?_ | refine ai ?_ _)); exact BK409.out⟩, ⟨bw_ HB⟩⟩
 case round =>
  clear H'; try clear hcz3_0
  try clear hcz3_1
  try clear hfz3_0
  try clear hfz3_1
  obtain ⟨x8_1, rfl, HA, HK1, BK409, HB⟩ := hrel; cases gk with
  | zero => exact absurd HA.out (by simp [aW.l0])
  | succ k1 =>
   have H := HA.out; clear HA; simp only [aW.l0] at H; by_cases c4 : x8_1 < (l0_1.length : Int)
   ·rw [if_pos c4] at H; have c4b0 := decide_eq_true c4; clear c4; obtain ⟨c5b0, H⟩ := gd_ H; obtain ⟨c6b0, H⟩ := gd_ H; obtain ⟨t413, A7, H⟩ := bi_ H; cases t413
    ·replace H := hf_ H; obtain rfl := si_ H; obtain ⟨ad411, e411, hx411_0, hx411_1⟩ := cz HR0_1.out x8_1 od_ od_; cases e411; replace hx411_0 := cb_ HB hx411_0; replace hx411_1 := cb_ HB hx411_1; obtain ⟨p411, q411⟩ := pt_ x8_1 l0_1.length; go_wp2_with (first | ((with_reducible refine aX (N := 4) rfl ?_); (try (refine bh cO ?_; dsimp only)); refine bB ?hg (N := 4) ?hd (cs := #[.string (⟨#[]⟩ : ByteArray), .string (⟨#[]⟩ : ByteArray)]) (t := 86) ?hr ?_; (case hd => rfl); (case hg => rfl); (case hr => exact cx); intro gb412 hg w30 hbox hb; have BK412 := am_ (hbox); have GW412 := gw_ HB hg; have GE412 := GW412; replace HB := bs_ HB hb; have NB409_412 := nl_ BK409 hg; have NB412_409 := ng_ BK409 hg; replace BK409 := bb_ BK409 hb; clear hb hbox hg; have hnb31 := NB412_409.out; have hnc31 := NB409_412.out; obtain ⟨hcz32_0, hcz32_1, hfz32_0, hfz32_1⟩ := bW BK412.out) | (go_at_call 108; (with_reducible refine (aw.calls k1 ((ak l0_1 x8_1).f0) false _ A7.out).mono ?_); rintro e w' ⟨rfl, ⟨nd, rfl⟩⟩; (try first | exact ⟨rfl, _, World.drewN_drewN _ _ _⟩ | exact ⟨rfl, _, Eq.trans (World.drewN_drewN _ _ _) (congrArg (World.drewN _) (Nat.add_assoc _ _ _))⟩)))
     repeat (go_quiet (first | ((with_reducible refine aX (N := 4) rfl ?_); (try (refine bh cO ?_; dsimp only)); refine bB ?hg (N := 4) ?hd (cs := #[.string (⟨#[]⟩ : ByteArray), .string (⟨#[]⟩ : ByteArray)]) (t := 86) ?hr ?_; (case hd => rfl); (case hg => rfl); (case hr => exact cx); intro gb412 hg w30 hbox hb; have BK412 := am_ (hbox); have GW412 := gw_ HB hg; have GE412 := GW412; replace HB := bs_ HB hb; have NB409_412 := nl_ BK409 hg; have NB412_409 := ng_ BK409 hg; replace BK409 := bb_ BK409 hb; clear hb hbox hg; have hnb31 := NB412_409.out; have hnc31 := NB409_412.out; obtain ⟨hcz32_0, hcz32_1, hfz32_0, hfz32_1⟩ := bW BK412.out) | (go_at_call 108; (with_reducible refine (aw.calls k1 ((ak l0_1 x8_1).f0) false _ A7.out).mono ?_); rintro e w' ⟨rfl, ⟨nd, rfl⟩⟩; (try first | exact ⟨rfl, _, World.drewN_drewN _ _ _⟩ | exact ⟨rfl, _, Eq.trans (World.drewN_drewN _ _ _) (congrArg (World.drewN _) (Nat.add_assoc _ _ _))⟩))); try go_wp2_with (first | ((with_reducible refine aX (N := 4) rfl ?_); (try (refine bh cO ?_; dsimp only)); refine bB ?hg (N := 4) ?hd (cs := #[.string (⟨#[]⟩ : ByteArray), .string (⟨#[]⟩ : ByteArray)]) (t := 86) ?hr ?_; (case hd => rfl); (case hg => rfl); (case hr => exact cx); intro gb412 hg w30 hbox hb; have BK412 := am_ (hbox); have GW412 := gw_ HB hg; have GE412 := GW412; replace HB := bs_ HB hb; have NB409_412 := nl_ BK409 hg; have NB412_409 := ng_ BK409 hg; replace BK409 := bb_ BK409 hb; clear hb hbox hg; have hnb31 := NB412_409.out; have hnc31 := NB409_412.out; obtain ⟨hcz32_0, hcz32_1, hfz32_0, hfz32_1⟩ := bW BK412.out) | (go_at_call 108; (with_reducible refine (aw.calls k1 ((ak l0_1 x8_1).f0) false _ A7.out).mono ?_); rintro e w' ⟨rfl, ⟨nd, rfl⟩⟩; (try first | exact ⟨rfl, _, World.drewN_drewN _ _ _⟩ | exact ⟨rfl, _, Eq.trans (World.drewN_drewN _ _ _) (congrArg (World.drewN _) (Nat.add_assoc _ _ _))⟩))))
     go_ret
     exact ⟨u0_, bw_ HB⟩
    ·replace H := ht_ H; obtain ⟨t414, A9, H⟩ := bi_ H; cases t414
     ·replace H := hf_ H; obtain rfl := si_ H; obtain ⟨ad411, e411, hx411_0, hx411_1⟩ := cz HR0_1.out x8_1 od_ od_; cases e411; replace hx411_0 := cb_ HB hx411_0; replace hx411_1 := cb_ HB hx411_1; obtain ⟨p411, q411⟩ := pt_ x8_1 l0_1.length; go_wp2_with (first | ((with_reducible refine aX (N := 4) rfl ?_); (try (refine bh cO ?_; dsimp only)); refine bB ?hg (N := 4) ?hd (cs := #[.string (⟨#[]⟩ : ByteArray), .string (⟨#[]⟩ : ByteArray)]) (t := 86) ?hr ?_; (case hd => rfl); (case hg => rfl); (case hr => exact cx); intro gb412 hg w27 hbox hb; have BK412 := am_ (hbox); have GW412 := gw_ HB hg; have GE412 := GW412; replace HB := bs_ HB hb; have NB409_412 := nl_ BK409 hg; have NB412_409 := ng_ BK409 hg; replace BK409 := bb_ BK409 hb; clear hb hbox hg; have hnb28 := NB412_409.out; have hnc28 := NB409_412.out; obtain ⟨hcz29_0, hcz29_1, hfz29_0, hfz29_1⟩ := bW BK412.out) | (go_at_call 108; (with_reducible refine (aw.calls k1 ((ak l0_1 x8_1).f0) true _ A7.out).mono ?_); rintro e w' ⟨rfl, ⟨nd, rfl⟩⟩; (try first | exact ⟨rfl, _, World.drewN_drewN _ _ _⟩ | exact ⟨rfl, _, Eq.trans (World.drewN_drewN _ _ _) (congrArg (World.drewN _) (Nat.add_assoc _ _ _))⟩)) | (go_at_call 147; (with_reducible refine (bV.calls k1 ((ak l0_1 x8_1).f1) false _ A9.out).mono ?_); rintro e w' ⟨rfl, ⟨nd, rfl⟩⟩; (try first | exact ⟨rfl, _, World.drewN_drewN _ _ _⟩ | exact ⟨rfl, _, Eq.trans (World.drewN_drewN _ _ _) (congrArg (World.drewN _) (Nat.add_assoc _ _ _))⟩)))
      repeat (go_quiet (first | ((with_reducible refine aX (N := 4) rfl ?_); (try (refine bh cO ?_; dsimp only)); refine bB ?hg (N := 4) ?hd (cs := #[.string (⟨#[]⟩ : ByteArray), .string (⟨#[]⟩ : ByteArray)]) (t := 86) ?hr ?_; (case hd => rfl); (case hg => rfl); (case hr => exact cx); intro gb412 hg w27 hbox hb; have BK412 := am_ (hbox); have GW412 := gw_ HB hg; have GE412 := GW412; replace HB := bs_ HB hb; have NB409_412 := nl_ BK409 hg; have NB412_409 := ng_ BK409 hg; replace BK409 := bb_ BK409 hb; clear hb hbox hg; have hnb28 := NB412_409.out; have hnc28 := NB409_412.out; obtain ⟨hcz29_0, hcz29_1, hfz29_0, hfz29_1⟩ := bW BK412.out) | (go_at_call 108; (with_reducible refine (aw.calls k1 ((ak l0_1 x8_1).f0) true _ A7.out).mono ?_); rintro e w' ⟨rfl, ⟨nd, rfl⟩⟩; (try first | exact ⟨rfl, _, World.drewN_drewN _ _ _⟩ | exact ⟨rfl, _, Eq.trans (World.drewN_drewN _ _ _) (congrArg (World.drewN _) (Nat.add_assoc _ _ _))⟩)) | (go_at_call 147; (with_reducible refine (bV.calls k1 ((ak l0_1 x8_1).f1) false _ A9.out).mono ?_); rintro e w' ⟨rfl, ⟨nd, rfl⟩⟩; (try first | exact ⟨rfl, _, World.drewN_drewN _ _ _⟩ | exact ⟨rfl, _, Eq.trans (World.drewN_drewN _ _ _) (congrArg (World.drewN _) (Nat.add_assoc _ _ _))⟩))); try go_wp2_with (first | ((with_reducible refine aX (N := 4) rfl ?_); (try (refine bh cO ?_; dsimp only)); refine bB ?hg (N := 4) ?hd (cs := #[.string (⟨#[]⟩ : ByteArray), .string (⟨#[]⟩ : ByteArray)]) (t := 86) ?hr ?_; (case hd => rfl); (case hg => rfl); (case hr => exact cx); intro gb412 hg w27 hbox hb; have BK412 := am_ (hbox); have GW412 := gw_ HB hg; have GE412 := GW412; replace HB := bs_ HB hb; have NB409_412 := nl_ BK409 hg; have NB412_409 := ng_ BK409 hg; replace BK409 := bb_ BK409 hb; clear hb hbox hg; have hnb28 := NB412_409.out; have hnc28 := NB409_412.out; obtain ⟨hcz29_0, hcz29_1, hfz29_0, hfz29_1⟩ := bW BK412.out) | (go_at_call 108; (with_reducible refine (aw.calls k1 ((ak l0_1 x8_1).f0) true _ A7.out).mono ?_); rintro e w' ⟨rfl, ⟨nd, rfl⟩⟩; (try first | exact ⟨rfl, _, World.drewN_drewN _ _ _⟩ | exact ⟨rfl, _, Eq.trans (World.drewN_drewN _ _ _) (congrArg (World.drewN _) (Nat.add_assoc _ _ _))⟩)) | (go_at_call 147; (with_reducible refine (bV.calls k1 ((ak l0_1 x8_1).f1) false _ A9.out).mono ?_); rintro e w' ⟨rfl, ⟨nd, rfl⟩⟩; (try first | exact ⟨rfl, _, World.drewN_drewN _ _ _⟩ | exact ⟨rfl, _, Eq.trans (World.drewN_drewN _ _ _) (congrArg (World.drewN _) (Nat.add_assoc _ _ _))⟩))))
      go_ret
      exact ⟨u0_, bw_ HB⟩
     ·replace H := ht_ H; by_cases c11 : x8_1 > 0
      ·rw [if_pos c11] at H; have c11b0 : decide (0 < x8_1) = true := decide_eq_true c11; clear c11; obtain ⟨ji12, hji12⟩ : ∃ j_ : Int, (wrap64 (x8_1 - 1)) = j_ := ⟨_, rfl⟩; replace H : (if 0 ≤ (ji12) then (if (ji12) < (l0_1.length : Int) then (if ((Op.bytesLess (((ak l0_1 (ji12)).f0).toList) (((ak l0_1 x8_1).f0).toList)) = true) then (aW.l0 k1 l0_1 (l0_1.length : Int) (wrap64 (x8_1 + 1)) a0_0 l0_1) else (some false)) else (none)) else (none)) = some r := by first | (rw [hji12] at H; exact H) | (simp only [hji12] at H ⊢; exact H)
       (try rw [hji12] at A7)
       (try rw [hji12] at A9)
       have hji12w : (IntKind.i64.wrap (x8_1 - 1)) = ji12 := (cP _).trans hji12; obtain ⟨c13b0, H⟩ := gd_ H; obtain ⟨c14b0, H⟩ := gd_ H; by_cases c15 : ((Op.bytesLess (((ak l0_1 (ji12)).f0).toList) (((ak l0_1 x8_1).f0).toList)) = true)
       ·rw [if_pos c15] at H; have c15b0 : (Op.bytesLess (((ak l0_1 (ji12)).f0).toList) (((ak l0_1 x8_1).f0).toList)) = true := c15; clear c15; have H' := am_ H; clear H; obtain ⟨ad411, e411, hx411_0, hx411_1⟩ := cz HR0_1.out x8_1 od_ od_; cases e411; replace hx411_0 := cb_ HB hx411_0; replace hx411_1 := cb_ HB hx411_1; obtain ⟨p411, q411⟩ := pt_ x8_1 l0_1.length; go_wp2_with (first | ((with_reducible refine aX (N := 4) rfl ?_); (try (refine bh cO ?_; dsimp only)); refine bB ?hg (N := 4) ?hd (cs := #[.string (⟨#[]⟩ : ByteArray), .string (⟨#[]⟩ : ByteArray)]) (t := 86) ?hr ?_; (case hd => rfl); (case hg => rfl); (case hr => exact cx); intro gb412 hg w16 hbox hb; have BK412 := am_ (hbox); have GW412 := gw_ HB hg; have GE412 := GW412; replace HB := bs_ HB hb; have NB409_412 := nl_ BK409 hg; have NB412_409 := ng_ BK409 hg; replace BK409 := bb_ BK409 hb; clear hb hbox hg; have hnb17 := NB412_409.out; have hnc17 := NB409_412.out; obtain ⟨hcz18_0, hcz18_1, hfz18_0, hfz18_1⟩ := bW BK412.out) | (go_at_call 108; (with_reducible refine (aw.calls k1 ((ak l0_1 x8_1).f0) true _ A7.out).mono ?_); rintro e w' ⟨rfl, ⟨nd, rfl⟩⟩; (try first | exact ⟨rfl, _, World.drewN_drewN _ _ _⟩ | exact ⟨rfl, _, Eq.trans (World.drewN_drewN _ _ _) (congrArg (World.drewN _) (Nat.add_assoc _ _ _))⟩)) | (go_at_call 147; (with_reducible refine (bV.calls k1 ((ak l0_1 x8_1).f1) true _ A9.out).mono ?_); rintro e w' ⟨rfl, ⟨nd, rfl⟩⟩; (try first | exact ⟨rfl, _, World.drewN_drewN _ _ _⟩ | exact ⟨rfl, _, Eq.trans (World.drewN_drewN _ _ _) (congrArg (World.drewN _) (Nat.add_assoc _ _ _))⟩); obtain ⟨hcz19_0, hcz19_1, hfz19_0, hfz19_1⟩ := bW BK409.out; obtain ⟨p415, q415⟩ := pq_ (ji12) l0_1.length; obtain ⟨ad415, e415, hx415_0, hx415_1⟩ := cz HR0_1.out (ji12) p415 q415; obtain rfl : ad411 = ad415 := (by injection e415); have hn415_0 : ad411.block ≠ gb412 := Nat.ne_of_lt (Nat.lt_of_lt_of_le jP GW412.out); have hn415_1 : ad411.block ≠ gb412 := Nat.ne_of_lt (Nat.lt_of_lt_of_le jP GW412.out); replace hx415_0 := cb_ HB hx415_0; replace hx415_1 := cb_ HB hx415_1; replace hx415_0 := (be (p := ⟨gb412, 0, none⟩) jF (.string ((ak l0_1 x8_1).f0))).trans hx415_0; replace hx415_1 := (be (p := ⟨gb412, 0, none⟩) jF (.string ((ak l0_1 x8_1).f0))).trans hx415_1; replace hx415_0 := (be (p := ⟨gb412, 1, none⟩) jN (.string ((ak l0_1 x8_1).f1))).trans hx415_0; replace hx415_1 := (be (p := ⟨gb412, 1, none⟩) jN (.string ((ak l0_1 x8_1).f1))).trans hx415_1; (try have hy415_0 := fun (n_ : Nat) => (show ((((w16.drewN n_).setCell ⟨gb412, 0, none⟩ (.string ((ak l0_1 x8_1).f0))).setCell ⟨gb412, 1, none⟩ (.string ((ak l0_1 x8_1).f1)))).cell? _ = some _ from hx415_0)); (try have hy415_1 := fun (n_ : Nat) => (show ((((w16.drewN n_).setCell ⟨gb412, 0, none⟩ (.string ((ak l0_1 x8_1).f0))).setCell ⟨gb412, 1, none⟩ (.string ((ak l0_1 x8_1).f1)))).cell? _ = some _ from hx415_1)); clear hn415_0 hn415_1; obtain ⟨p415, q415⟩ := tt_ p415 q415))
        repeat (go_quiet (first | ((with_reducible refine aX (N := 4) rfl ?_); (try (refine bh cO ?_; dsimp only)); refine bB ?hg (N := 4) ?hd (cs := #[.string (⟨#[]⟩ : ByteArray), .string (⟨#[]⟩ : ByteArray)]) (t := 86) ?hr ?_; (case hd => rfl); (case hg => rfl); (case hr => exact cx); intro gb412 hg w16 hbox hb; have BK412 := am_ (hbox); have GW412 := gw_ HB hg; have GE412 := GW412; replace HB := bs_ HB hb; have NB409_412 := nl_ BK409 hg; have NB412_409 := ng_ BK409 hg; replace BK409 := bb_ BK409 hb; clear hb hbox hg; have hnb17 := NB412_409.out; have hnc17 := NB409_412.out; obtain ⟨hcz18_0, hcz18_1, hfz18_0, hfz18_1⟩ := bW BK412.out) | (go_at_call 108; (with_reducible refine (aw.calls k1 ((ak l0_1 x8_1).f0) true _ A7.out).mono ?_); rintro e w' ⟨rfl, ⟨nd, rfl⟩⟩; (try first | exact ⟨rfl, _, World.drewN_drewN _ _ _⟩ | exact ⟨rfl, _, Eq.trans (World.drewN_drewN _ _ _) (congrArg (World.drewN _) (Nat.add_assoc _ _ _))⟩)) | (go_at_call 147; (with_reducible refine (bV.calls k1 ((ak l0_1 x8_1).f1) true _ A9.out).mono ?_); rintro e w' ⟨rfl, ⟨nd, rfl⟩⟩; (try first | exact ⟨rfl, _, World.drewN_drewN _ _ _⟩ | exact ⟨rfl, _, Eq.trans (World.drewN_drewN _ _ _) (congrArg (World.drewN _) (Nat.add_assoc _ _ _))⟩); obtain ⟨hcz19_0, hcz19_1, hfz19_0, hfz19_1⟩ := bW BK409.out; obtain ⟨p415, q415⟩ := pq_ (ji12) l0_1.length; obtain ⟨ad415, e415, hx415_0, hx415_1⟩ := cz HR0_1.out (ji12) p415 q415; obtain rfl : ad411 = ad415 := (by injection e415); have hn415_0 : ad411.block ≠ gb412 := Nat.ne_of_lt (Nat.lt_of_lt_of_le jP GW412.out); have hn415_1 : ad411.block ≠ gb412 := Nat.ne_of_lt (Nat.lt_of_lt_of_le jP GW412.out); replace hx415_0 := cb_ HB hx415_0; replace hx415_1 := cb_ HB hx415_1; replace hx415_0 := (be (p := ⟨gb412, 0, none⟩) jF (.string ((ak l0_1 x8_1).f0))).trans hx415_0; replace hx415_1 := (be (p := ⟨gb412, 0, none⟩) jF (.string ((ak l0_1 x8_1).f0))).trans hx415_1; replace hx415_0 := (be (p := ⟨gb412, 1, none⟩) jN (.string ((ak l0_1 x8_1).f1))).trans hx415_0; replace hx415_1 := (be (p := ⟨gb412, 1, none⟩) jN (.string ((ak l0_1 x8_1).f1))).trans hx415_1; (try have hy415_0 := fun (n_ : Nat) => (show ((((w16.drewN n_).setCell ⟨gb412, 0, none⟩ (.string ((ak l0_1 x8_1).f0))).setCell ⟨gb412, 1, none⟩ (.string ((ak l0_1 x8_1).f1)))).cell? _ = some _ from hx415_0)); (try have hy415_1 := fun (n_ : Nat) => (show ((((w16.drewN n_).setCell ⟨gb412, 0, none⟩ (.string ((ak l0_1 x8_1).f0))).setCell ⟨gb412, 1, none⟩ (.string ((ak l0_1 x8_1).f1)))).cell? _ = some _ from hx415_1)); clear hn415_0 hn415_1; obtain ⟨p415, q415⟩ := tt_ p415 q415)); try go_wp2_with (first | ((with_reducible refine aX (N := 4) rfl ?_); (try (refine bh cO ?_; dsimp only)); refine bB ?hg (N := 4) ?hd (cs := #[.string (⟨#[]⟩ : ByteArray), .string (⟨#[]⟩ : ByteArray)]) (t := 86) ?hr ?_; (case hd => rfl); (case hg => rfl); (case hr => exact cx); intro gb412 hg w16 hbox hb; have BK412 := am_ (hbox); have GW412 := gw_ HB hg; have GE412 := GW412; replace HB := bs_ HB hb; have NB409_412 := nl_ BK409 hg; have NB412_409 := ng_ BK409 hg; replace BK409 := bb_ BK409 hb; clear hb hbox hg; have hnb17 := NB412_409.out; have hnc17 := NB409_412.out; obtain ⟨hcz18_0, hcz18_1, hfz18_0, hfz18_1⟩ := bW BK412.out) | (go_at_call 108; (with_reducible refine (aw.calls k1 ((ak l0_1 x8_1).f0) true _ A7.out).mono ?_); rintro e w' ⟨rfl, ⟨nd, rfl⟩⟩; (try first | exact ⟨rfl, _, World.drewN_drewN _ _ _⟩ | exact ⟨rfl, _, Eq.trans (World.drewN_drewN _ _ _) (congrArg (World.drewN _) (Nat.add_assoc _ _ _))⟩)) | (go_at_call 147; (with_reducible refine (bV.calls k1 ((ak l0_1 x8_1).f1) true _ A9.out).mono ?_); rintro e w' ⟨rfl, ⟨nd, rfl⟩⟩; (try first | exact ⟨rfl, _, World.drewN_drewN _ _ _⟩ | exact ⟨rfl, _, Eq.trans (World.drewN_drewN _ _ _) (congrArg (World.drewN _) (Nat.add_assoc _ _ _))⟩); obtain ⟨hcz19_0, hcz19_1, hfz19_0, hfz19_1⟩ := bW BK409.out; obtain ⟨p415, q415⟩ := pq_ (ji12) l0_1.length; obtain ⟨ad415, e415, hx415_0, hx415_1⟩ := cz HR0_1.out (ji12) p415 q415; obtain rfl : ad411 = ad415 := (by injection e415); have hn415_0 : ad411.block ≠ gb412 := Nat.ne_of_lt (Nat.lt_of_lt_of_le jP GW412.out); have hn415_1 : ad411.block ≠ gb412 := Nat.ne_of_lt (Nat.lt_of_lt_of_le jP GW412.out); replace hx415_0 := cb_ HB hx415_0; replace hx415_1 := cb_ HB hx415_1; replace hx415_0 := (be (p := ⟨gb412, 0, none⟩) jF (.string ((ak l0_1 x8_1).f0))).trans hx415_0; replace hx415_1 := (be (p := ⟨gb412, 0, none⟩) jF (.string ((ak l0_1 x8_1).f0))).trans hx415_1; replace hx415_0 := (be (p := ⟨gb412, 1, none⟩) jN (.string ((ak l0_1 x8_1).f1))).trans hx415_0; replace hx415_1 := (be (p := ⟨gb412, 1, none⟩) jN (.string ((ak l0_1 x8_1).f1))).trans hx415_1; (try have hy415_0 := fun (n_ : Nat) => (show ((((w16.drewN n_).setCell ⟨gb412, 0, none⟩ (.string ((ak l0_1 x8_1).f0))).setCell ⟨gb412, 1, none⟩ (.string ((ak l0_1 x8_1).f1)))).cell? _ = some _ from hx415_0)); (try have hy415_1 := fun (n_ : Nat) => (show ((((w16.drewN n_).setCell ⟨gb412, 0, none⟩ (.string ((ak l0_1 x8_1).f0))).setCell ⟨gb412, 1, none⟩ (.string ((ak l0_1 x8_1).f1)))).cell? _ = some _ from hx415_1)); clear hn415_0 hn415_1; obtain ⟨p415, q415⟩ := tt_ p415 q415)))
        go_roundg k1
        case measure => have := HK1.out; omega
        case rel => exact ⟨(wrap64 (x8_1 + 1)), u1_, H', ⟨du⟩, ⟨u60_⟩, ⟨bw_ HB⟩⟩
       ·rw [if_neg c15] at H; have c15b0 : (Op.bytesLess (((ak l0_1 (ji12)).f0).toList) (((ak l0_1 x8_1).f0).toList)) = false := by simpa using c15
        clear c15; obtain rfl := si_ H; obtain ⟨ad411, e411, hx411_0, hx411_1⟩ := cz HR0_1.out x8_1 od_ od_; cases e411; replace hx411_0 := cb_ HB hx411_0; replace hx411_1 := cb_ HB hx411_1; obtain ⟨p411, q411⟩ := pt_ x8_1 l0_1.length; go_wp2_with (first | ((with_reducible refine aX (N := 4) rfl ?_); (try (refine bh cO ?_; dsimp only)); refine bB ?hg (N := 4) ?hd (cs := #[.string (⟨#[]⟩ : ByteArray), .string (⟨#[]⟩ : ByteArray)]) (t := 86) ?hr ?_; (case hd => rfl); (case hg => rfl); (case hr => exact cx); intro gb412 hg w20 hbox hb; have BK412 := am_ (hbox); have GW412 := gw_ HB hg; have GE412 := GW412; replace HB := bs_ HB hb; have NB409_412 := nl_ BK409 hg; have NB412_409 := ng_ BK409 hg; replace BK409 := bb_ BK409 hb; clear hb hbox hg; have hnb21 := NB412_409.out; have hnc21 := NB409_412.out; obtain ⟨hcz22_0, hcz22_1, hfz22_0, hfz22_1⟩ := bW BK412.out) | (go_at_call 108; (with_reducible refine (aw.calls k1 ((ak l0_1 x8_1).f0) true _ A7.out).mono ?_); rintro e w' ⟨rfl, ⟨nd, rfl⟩⟩; (try first | exact ⟨rfl, _, World.drewN_drewN _ _ _⟩ | exact ⟨rfl, _, Eq.trans (World.drewN_drewN _ _ _) (congrArg (World.drewN _) (Nat.add_assoc _ _ _))⟩)) | (go_at_call 147; (with_reducible refine (bV.calls k1 ((ak l0_1 x8_1).f1) true _ A9.out).mono ?_); rintro e w' ⟨rfl, ⟨nd, rfl⟩⟩; (try first | exact ⟨rfl, _, World.drewN_drewN _ _ _⟩ | exact ⟨rfl, _, Eq.trans (World.drewN_drewN _ _ _) (congrArg (World.drewN _) (Nat.add_assoc _ _ _))⟩); obtain ⟨hcz23_0, hcz23_1, hfz23_0, hfz23_1⟩ := bW BK409.out; obtain ⟨p415, q415⟩ := pq_ (ji12) l0_1.length; obtain ⟨ad415, e415, hx415_0, hx415_1⟩ := cz HR0_1.out (ji12) p415 q415; obtain rfl : ad411 = ad415 := (by injection e415); have hn415_0 : ad411.block ≠ gb412 := Nat.ne_of_lt (Nat.lt_of_lt_of_le jP GW412.out); have hn415_1 : ad411.block ≠ gb412 := Nat.ne_of_lt (Nat.lt_of_lt_of_le jP GW412.out); replace hx415_0 := cb_ HB hx415_0; replace hx415_1 := cb_ HB hx415_1; replace hx415_0 := (be (p := ⟨gb412, 0, none⟩) jF (.string ((ak l0_1 x8_1).f0))).trans hx415_0; replace hx415_1 := (be (p := ⟨gb412, 0, none⟩) jF (.string ((ak l0_1 x8_1).f0))).trans hx415_1; replace hx415_0 := (be (p := ⟨gb412, 1, none⟩) jN (.string ((ak l0_1 x8_1).f1))).trans hx415_0; replace hx415_1 := (be (p := ⟨gb412, 1, none⟩) jN (.string ((ak l0_1 x8_1).f1))).trans hx415_1; (try have hy415_0 := fun (n_ : Nat) => (show ((((w20.drewN n_).setCell ⟨gb412, 0, none⟩ (.string ((ak l0_1 x8_1).f0))).setCell ⟨gb412, 1, none⟩ (.string ((ak l0_1 x8_1).f1)))).cell? _ = some _ from hx415_0)); (try have hy415_1 := fun (n_ : Nat) => (show ((((w20.drewN n_).setCell ⟨gb412, 0, none⟩ (.string ((ak l0_1 x8_1).f0))).setCell ⟨gb412, 1, none⟩ (.string ((ak l0_1 x8_1).f1)))).cell? _ = some _ from hx415_1)); clear hn415_0 hn415_1; obtain ⟨p415, q415⟩ := tt_ p415 q415))
        repeat (go_quiet (first | ((with_reducible refine aX (N := 4) rfl ?_); (try (refine bh cO ?_; dsimp only)); refine bB ?hg (N := 4) ?hd (cs := #[.string (⟨#[]⟩ : ByteArray), .string (⟨#[]⟩ : ByteArray)]) (t := 86) ?hr ?_; (case hd => rfl); (case hg => rfl); (case hr => exact cx); intro gb412 hg w20 hbox hb; have BK412 := am_ (hbox); have GW412 := gw_ HB hg; have GE412 := GW412; replace HB := bs_ HB hb; have NB409_412 := nl_ BK409 hg; have NB412_409 := ng_ BK409 hg; replace BK409 := bb_ BK409 hb; clear hb hbox hg; have hnb21 := NB412_409.out; have hnc21 := NB409_412.out; obtain ⟨hcz22_0, hcz22_1, hfz22_0, hfz22_1⟩ := bW BK412.out) | (go_at_call 108; (with_reducible refine (aw.calls k1 ((ak l0_1 x8_1).f0) true _ A7.out).mono ?_); rintro e w' ⟨rfl, ⟨nd, rfl⟩⟩; (try first | exact ⟨rfl, _, World.drewN_drewN _ _ _⟩ | exact ⟨rfl, _, Eq.trans (World.drewN_drewN _ _ _) (congrArg (World.drewN _) (Nat.add_assoc _ _ _))⟩)) | (go_at_call 147; (with_reducible refine (bV.calls k1 ((ak l0_1 x8_1).f1) true _ A9.out).mono ?_); rintro e w' ⟨rfl, ⟨nd, rfl⟩⟩; (try first | exact ⟨rfl, _, World.drewN_drewN _ _ _⟩ | exact ⟨rfl, _, Eq.trans (World.drewN_drewN _ _ _) (congrArg (World.drewN _) (Nat.add_assoc _ _ _))⟩); obtain ⟨hcz23_0, hcz23_1, hfz23_0, hfz23_1⟩ := bW BK409.out; obtain ⟨p415, q415⟩ := pq_ (ji12) l0_1.length; obtain ⟨ad415, e415, hx415_0, hx415_1⟩ := cz HR0_1.out (ji12) p415 q415; obtain rfl : ad411 = ad415 := (by injection e415); have hn415_0 : ad411.block ≠ gb412 := Nat.ne_of_lt (Nat.lt_of_lt_of_le jP GW412.out); have hn415_1 : ad411.block ≠ gb412 := Nat.ne_of_lt (Nat.lt_of_lt_of_le jP GW412.out); replace hx415_0 := cb_ HB hx415_0; replace hx415_1 := cb_ HB hx415_1; replace hx415_0 := (be (p := ⟨gb412, 0, none⟩) jF (.string ((ak l0_1 x8_1).f0))).trans hx415_0; replace hx415_1 := (be (p := ⟨gb412, 0, none⟩) jF (.string ((ak l0_1 x8_1).f0))).trans hx415_1; replace hx415_0 := (be (p := ⟨gb412, 1, none⟩) jN (.string ((ak l0_1 x8_1).f1))).trans hx415_0; replace hx415_1 := (be (p := ⟨gb412, 1, none⟩) jN (.string ((ak l0_1 x8_1).f1))).trans hx415_1; (try have hy415_0 := fun (n_ : Nat) => (show ((((w20.drewN n_).setCell ⟨gb412, 0, none⟩ (.string ((ak l0_1 x8_1).f0))).setCell ⟨gb412, 1, none⟩ (.string ((ak l0_1 x8_1).f1)))).cell? _ = some _ from hx415_0)); (try have hy415_1 := fun (n_ : Nat) => (show ((((w20.drewN n_).setCell ⟨gb412, 0, none⟩ (.string ((ak l0_1 x8_1).f0))).setCell ⟨gb412, 1, none⟩ (.string ((ak l0_1 x8_1).f1)))).cell? _ = some _ from hx415_1)); clear hn415_0 hn415_1; obtain ⟨p415, q415⟩ := tt_ p415 q415)); try go_wp2_with (first | ((with_reducible refine aX (N := 4) rfl ?_); (try (refine bh cO ?_; dsimp only)); refine bB ?hg (N := 4) ?hd (cs := #[.string (⟨#[]⟩ : ByteArray), .string (⟨#[]⟩ : ByteArray)]) (t := 86) ?hr ?_; (case hd => rfl); (case hg => rfl); (case hr => exact cx); intro gb412 hg w20 hbox hb; have BK412 := am_ (hbox); have GW412 := gw_ HB hg; have GE412 := GW412; replace HB := bs_ HB hb; have NB409_412 := nl_ BK409 hg; have NB412_409 := ng_ BK409 hg; replace BK409 := bb_ BK409 hb; clear hb hbox hg; have hnb21 := NB412_409.out; have hnc21 := NB409_412.out; obtain ⟨hcz22_0, hcz22_1, hfz22_0, hfz22_1⟩ := bW BK412.out) | (go_at_call 108; (with_reducible refine (aw.calls k1 ((ak l0_1 x8_1).f0) true _ A7.out).mono ?_); rintro e w' ⟨rfl, ⟨nd, rfl⟩⟩; (try first | exact ⟨rfl, _, World.drewN_drewN _ _ _⟩ | exact ⟨rfl, _, Eq.trans (World.drewN_drewN _ _ _) (congrArg (World.drewN _) (Nat.add_assoc _ _ _))⟩)) | (go_at_call 147; (with_reducible refine (bV.calls k1 ((ak l0_1 x8_1).f1) true _ A9.out).mono ?_); rintro e w' ⟨rfl, ⟨nd, rfl⟩⟩; (try first | exact ⟨rfl, _, World.drewN_drewN _ _ _⟩ | exact ⟨rfl, _, Eq.trans (World.drewN_drewN _ _ _) (congrArg (World.drewN _) (Nat.add_assoc _ _ _))⟩); obtain ⟨hcz23_0, hcz23_1, hfz23_0, hfz23_1⟩ := bW BK409.out; obtain ⟨p415, q415⟩ := pq_ (ji12) l0_1.length; obtain ⟨ad415, e415, hx415_0, hx415_1⟩ := cz HR0_1.out (ji12) p415 q415; obtain rfl : ad411 = ad415 := (by injection e415); have hn415_0 : ad411.block ≠ gb412 := Nat.ne_of_lt (Nat.lt_of_lt_of_le jP GW412.out); have hn415_1 : ad411.block ≠ gb412 := Nat.ne_of_lt (Nat.lt_of_lt_of_le jP GW412.out); replace hx415_0 := cb_ HB hx415_0; replace hx415_1 := cb_ HB hx415_1; replace hx415_0 := (be (p := ⟨gb412, 0, none⟩) jF (.string ((ak l0_1 x8_1).f0))).trans hx415_0; replace hx415_1 := (be (p := ⟨gb412, 0, none⟩) jF (.string ((ak l0_1 x8_1).f0))).trans hx415_1; replace hx415_0 := (be (p := ⟨gb412, 1, none⟩) jN (.string ((ak l0_1 x8_1).f1))).trans hx415_0; replace hx415_1 := (be (p := ⟨gb412, 1, none⟩) jN (.string ((ak l0_1 x8_1).f1))).trans hx415_1; (try have hy415_0 := fun (n_ : Nat) => (show ((((w20.drewN n_).setCell ⟨gb412, 0, none⟩ (.string ((ak l0_1 x8_1).f0))).setCell ⟨gb412, 1, none⟩ (.string ((ak l0_1 x8_1).f1)))).cell? _ = some _ from hx415_0)); (try have hy415_1 := fun (n_ : Nat) => (show ((((w20.drewN n_).setCell ⟨gb412, 0, none⟩ (.string ((ak l0_1 x8_1).f0))).setCell ⟨gb412, 1, none⟩ (.string ((ak l0_1 x8_1).f1)))).cell? _ = some _ from hx415_1)); clear hn415_0 hn415_1; obtain ⟨p415, q415⟩ := tt_ p415 q415)))
        go_ret
        exact ⟨u81_, bw_ HB⟩
      ·rw [if_neg c11] at H; have c11b0 : decide (0 < x8_1) = false := decide_eq_false c11; clear c11; have H' := am_ H; clear H; obtain ⟨ad411, e411, hx411_0, hx411_1⟩ := cz HR0_1.out x8_1 od_ od_; cases e411; replace hx411_0 := cb_ HB hx411_0; replace hx411_1 := cb_ HB hx411_1; obtain ⟨p411, q411⟩ := pt_ x8_1 l0_1.length; go_wp2_with (first | ((with_reducible refine aX (N := 4) rfl ?_); (try (refine bh cO ?_; dsimp only)); refine bB ?hg (N := 4) ?hd (cs := #[.string (⟨#[]⟩ : ByteArray), .string (⟨#[]⟩ : ByteArray)]) (t := 86) ?hr ?_; (case hd => rfl); (case hg => rfl); (case hr => exact cx); intro gb412 hg w24 hbox hb; have BK412 := am_ (hbox); have GW412 := gw_ HB hg; have GE412 := GW412; replace HB := bs_ HB hb; have NB409_412 := nl_ BK409 hg; have NB412_409 := ng_ BK409 hg; replace BK409 := bb_ BK409 hb; clear hb hbox hg; have hnb25 := NB412_409.out; have hnc25 := NB409_412.out; obtain ⟨hcz26_0, hcz26_1, hfz26_0, hfz26_1⟩ := bW BK412.out) | (go_at_call 108; (with_reducible refine (aw.calls k1 ((ak l0_1 x8_1).f0) true _ A7.out).mono ?_); rintro e w' ⟨rfl, ⟨nd, rfl⟩⟩; (try first | exact ⟨rfl, _, World.drewN_drewN _ _ _⟩ | exact ⟨rfl, _, Eq.trans (World.drewN_drewN _ _ _) (congrArg (World.drewN _) (Nat.add_assoc _ _ _))⟩)) | (go_at_call 147; (with_reducible refine (bV.calls k1 ((ak l0_1 x8_1).f1) true _ A9.out).mono ?_); rintro e w' ⟨rfl, ⟨nd, rfl⟩⟩; (try first | exact ⟨rfl, _, World.drewN_drewN _ _ _⟩ | exact ⟨rfl, _, Eq.trans (World.drewN_drewN _ _ _) (congrArg (World.drewN _) (Nat.add_assoc _ _ _))⟩)))
       repeat (go_quiet (first | ((with_reducible refine aX (N := 4) rfl ?_); (try (refine bh cO ?_; dsimp only)); refine bB ?hg (N := 4) ?hd (cs := #[.string (⟨#[]⟩ : ByteArray), .string (⟨#[]⟩ : ByteArray)]) (t := 86) ?hr ?_; (case hd => rfl); (case hg => rfl); (case hr => exact cx); intro gb412 hg w24 hbox hb; have BK412 := am_ (hbox); have GW412 := gw_ HB hg; have GE412 := GW412; replace HB := bs_ HB hb; have NB409_412 := nl_ BK409 hg; have NB412_409 := ng_ BK409 hg; replace BK409 := bb_ BK409 hb; clear hb hbox hg; have hnb25 := NB412_409.out; have hnc25 := NB409_412.out; obtain ⟨hcz26_0, hcz26_1, hfz26_0, hfz26_1⟩ := bW BK412.out) | (go_at_call 108; (with_reducible refine (aw.calls k1 ((ak l0_1 x8_1).f0) true _ A7.out).mono ?_); rintro e w' ⟨rfl, ⟨nd, rfl⟩⟩; (try first | exact ⟨rfl, _, World.drewN_drewN _ _ _⟩ | exact ⟨rfl, _, Eq.trans (World.drewN_drewN _ _ _) (congrArg (World.drewN _) (Nat.add_assoc _ _ _))⟩)) | (go_at_call 147; (with_reducible refine (bV.calls k1 ((ak l0_1 x8_1).f1) true _ A9.out).mono ?_); rintro e w' ⟨rfl, ⟨nd, rfl⟩⟩; (try first | exact ⟨rfl, _, World.drewN_drewN _ _ _⟩ | exact ⟨rfl, _, Eq.trans (World.drewN_drewN _ _ _) (congrArg (World.drewN _) (Nat.add_assoc _ _ _))⟩))); try go_wp2_with (first | ((with_reducible refine aX (N := 4) rfl ?_); (try (refine bh cO ?_; dsimp only)); refine bB ?hg (N := 4) ?hd (cs := #[.string (⟨#[]⟩ : ByteArray), .string (⟨#[]⟩ : ByteArray)]) (t := 86) ?hr ?_; (case hd => rfl); (case hg => rfl); (case hr => exact cx); intro gb412 hg w24 hbox hb; have BK412 := am_ (hbox); have GW412 := gw_ HB hg; have GE412 := GW412; replace HB := bs_ HB hb; have NB409_412 := nl_ BK409 hg; have NB412_409 := ng_ BK409 hg; replace BK409 := bb_ BK409 hb; clear hb hbox hg; have hnb25 := NB412_409.out; have hnc25 := NB409_412.out; obtain ⟨hcz26_0, hcz26_1, hfz26_0, hfz26_1⟩ := bW BK412.out) | (go_at_call 108; (with_reducible refine (aw.calls k1 ((ak l0_1 x8_1).f0) true _ A7.out).mono ?_); rintro e w' ⟨rfl, ⟨nd, rfl⟩⟩; (try first | exact ⟨rfl, _, World.drewN_drewN _ _ _⟩ | exact ⟨rfl, _, Eq.trans (World.drewN_drewN _ _ _) (congrArg (World.drewN _) (Nat.add_assoc _ _ _))⟩)) | (go_at_call 147; (with_reducible refine (bV.calls k1 ((ak l0_1 x8_1).f1) true _ A9.out).mono ?_); rintro e w' ⟨rfl, ⟨nd, rfl⟩⟩; (try first | exact ⟨rfl, _, World.drewN_drewN _ _ _⟩ | exact ⟨rfl, _, Eq.trans (World.drewN_drewN _ _ _) (congrArg (World.drewN _) (Nat.add_assoc _ _ _))⟩))))
       go_roundg k1
       case measure => have := HK1.out; omega
       case rel => exact ⟨(wrap64 (x8_1 + 1)), u1_, H', ⟨du⟩, ⟨u60_⟩, ⟨bw_ HB⟩⟩
   ·rw [if_neg c4] at H; have c4b0 := decide_eq_false c4; clear c4; obtain ⟨t410, A33, H⟩ := bi_ H; cases t410
    ·replace H := hf_ H; obtain rfl := si_ H; obtain ⟨hcz36_0, hcz36_1, hfz36_0, hfz36_1⟩ := bW BK409.out; go_wp2_with (first | (go_at_call 108; (with_reducible refine (aw.calls k1 a0_0 false _ A33.out).mono ?_); rintro e w' ⟨rfl, ⟨nd, rfl⟩⟩; (try first | exact ⟨rfl, _, World.drewN_drewN _ _ _⟩ | exact ⟨rfl, _, Eq.trans (World.drewN_drewN _ _ _) (congrArg (World.drewN _) (Nat.add_assoc _ _ _))⟩)))
     repeat (go_quiet (first | (go_at_call 108; (with_reducible refine (aw.calls k1 a0_0 false _ A33.out).mono ?_); rintro e w' ⟨rfl, ⟨nd, rfl⟩⟩; (try first | exact ⟨rfl, _, World.drewN_drewN _ _ _⟩ | exact ⟨rfl, _, Eq.trans (World.drewN_drewN _ _ _) (congrArg (World.drewN _) (Nat.add_assoc _ _ _))⟩))); try go_wp2_with (first | (go_at_call 108; (with_reducible refine (aw.calls k1 a0_0 false _ A33.out).mono ?_); rintro e w' ⟨rfl, ⟨nd, rfl⟩⟩; (try first | exact ⟨rfl, _, World.drewN_drewN _ _ _⟩ | exact ⟨rfl, _, Eq.trans (World.drewN_drewN _ _ _) (congrArg (World.drewN _) (Nat.add_assoc _ _ _))⟩))))
     go_ret
     exact ⟨u0_, bw_ HB⟩
    ·replace H := ht_ H; obtain rfl := si_ H; obtain ⟨hcz35_0, hcz35_1, hfz35_0, hfz35_1⟩ := bW BK409.out; go_wp2_with (first | (go_at_call 108; (with_reducible refine (aw.calls k1 a0_0 true _ A33.out).mono ?_); rintro e w' ⟨rfl, ⟨nd, rfl⟩⟩; (try first | exact ⟨rfl, _, World.drewN_drewN _ _ _⟩ | exact ⟨rfl, _, Eq.trans (World.drewN_drewN _ _ _) (congrArg (World.drewN _) (Nat.add_assoc _ _ _))⟩)))
     repeat (go_quiet (first | (go_at_call 108; (with_reducible refine (aw.calls k1 a0_0 true _ A33.out).mono ?_); rintro e w' ⟨rfl, ⟨nd, rfl⟩⟩; (try first | exact ⟨rfl, _, World.drewN_drewN _ _ _⟩ | exact ⟨rfl, _, Eq.trans (World.drewN_drewN _ _ _) (congrArg (World.drewN _) (Nat.add_assoc _ _ _))⟩))); try go_wp2_with (first | (go_at_call 108; (with_reducible refine (aw.calls k1 a0_0 true _ A33.out).mono ?_); rintro e w' ⟨rfl, ⟨nd, rfl⟩⟩; (try first | exact ⟨rfl, _, World.drewN_drewN _ _ _⟩ | exact ⟨rfl, _, Eq.trans (World.drewN_drewN _ _ _) (congrArg (World.drewN _) (Nat.add_assoc _ _ _))⟩))))
     go_ret
     exact ⟨u0_, bw_ HB⟩
def a6.l0 : Nat → ByteArray → List (S92) → Int → Int → Option (ByteArray × Int × Int)
 | 0, _, _, _, _ => none
 | k + 1, x1, x7, x8, x9 => if x9 < x8 then (if 0 ≤ x9 then (if x9 < (x7.length : Int) then (if ((ar x7 x9).f0).toList = x1.toList then (some ((ar x7 x9).f0, (ar x7 x9).f1, (ar x7 x9).f2)) else (a6.l0 k x1 x7 x8 (wrap64 (x9 + 1)))) else (none)) else (none)) else (some ((⟨#[]⟩ : ByteArray), 0, 0))
def a6.f (k : Nat) (l0 : List (S92)) (a1 : ByteArray) : Option (ByteArray × Int × Int) := a6.l0 k a1 l0 (l0.length : Int) 0
theorem a6.mono_l : ∀ k, M4 a6.l0 k
 | 0 => ⟨cU⟩
 | k + 1 => by have _ := a6.mono_l k; exact ⟨by intros; unfold a6.l0; exact mo_⟩
instance a6.mono (k : Nat) : M2 a6.f k := ⟨by have _ := a6.mono_l k; intros; unfold a6.f; exact mo_⟩
theorem a6.calls (k : Nat) (A0 : Option Addr) (c0 : Nat) (l0 : List (S92)) (a1 : ByteArray) (r1 : ByteArray) (r2 : Int) (r3 : Int) (w : World) (hr0 : Kd.C k92 w A0 l0.length l0) (hc0 : l0.length ≤ c0) (h : a6.f k l0 a1 = some (r1, r2, r3)) :
  Calls Tryz.prog 110 #[.slice A0 l0.length c0, .string a1] w fun e w' => e = .returned (.agg #[.string r1, .int .i64 r2, .int .i64 r3]) ∧ Below w.heap.size w w' := by
 have hu92 := Tryz.underlying92; have HR0 := am_ hr0; have HC0 := am_ hc0; clear hr0 hc0; have HB := am_ (Below.refl w.heap.size w); have H := h; clear h; unfold a6.f at H
 have H' := am_ H; clear H; go_enter Tryz.func110, Tryz.ntmps110
 go_wp2_with (first | (with_reducible refine gt_ 4 ?_; refine bx_ 4 #[.string (⟨#[]⟩ : ByteArray), .int .i64 0, .int .i64 0] 92 ?_; intro gb416 hg w3 hbox hb; have BK416 := am_ (hbox); have GE416 := gw_ HB hg; replace HB := bs_ HB hb; clear hb hbox hg))
 go_loopg [9] k (fun kq v9 w' => ∃ (x9_1 : Int) (x417000_1 : ByteArray) (x417001_1 : Int) (x417002_1 : Int), v9 = .int .i64 x9_1 ∧ aa (a6.l0 kq a1 l0 (l0.length : Int) x9_1 = some (r1, r2, r3)) ∧ aa (kq ≤ k) ∧ aa (w'.heap[gb416]? = some (.cells #[.string x417000_1, .int .i64 x417001_1, .int .i64 x417002_1] 92 (0, 0))) ∧ aa (Below w.heap.size w w'))
 case atStart => exact ⟨(0), ((⟨#[]⟩ : ByteArray)), (0), (0), u1_, H', ⟨Nat.le_refl _⟩, ⟨by (with_reducible repeat (first | refine ah ?_ _ | refine ac ?_ | refine ai ?_ _)); exact BK416.out⟩, ⟨bw_ HB⟩⟩
 case round =>
  clear H'; obtain ⟨x9_1, x417000_1, x417001_1, x417002_1, rfl, HA, HK1, BK416, HB⟩ := hrel; cases gk with
  | zero => exact absurd HA.out (by simp [a6.l0])
  | succ k1 =>
   have H := HA.out; clear HA; simp only [a6.l0] at H; by_cases c4 : x9_1 < (l0.length : Int)
   ·rw [if_pos c4] at H; have c4b0 := decide_eq_true c4; clear c4; obtain ⟨c5b0, H⟩ := gd_ H; obtain ⟨c6b0, H⟩ := gd_ H; by_cases c7 : ((ar l0 x9_1).f0).toList = a1.toList
    ·rw [if_pos c7] at H; have c7b0 := db c7; have c7b1 := dd c7; clear c7; simp only [Option.some.injEq, Prod.mk.injEq] at H; obtain ⟨rfl, rfl, rfl⟩ := H; obtain ⟨ad417, e417, hx417_0, hx417_1, hx417_2⟩ := fJ HR0.out x9_1 od_ od_; cases e417; replace hx417_0 := cb_ HB hx417_0; replace hx417_1 := cb_ HB hx417_1; replace hx417_2 := cb_ HB hx417_2; obtain ⟨p417, q417⟩ := pt_ x9_1 l0.length; go_wp2_with (first | (with_reducible refine gt_ 6 ?_; refine bx_ 6 #[.string (⟨#[]⟩ : ByteArray), .int .i64 0, .int .i64 0] 92 ?_; intro gb418 hg w8 hbox hb; have BK418 := am_ (hbox); have GE418 := gw_ HB hg; replace HB := bs_ HB hb; have NB416_418 := nl_ BK416 hg; have NB418_416 := ng_ BK416 hg; replace BK416 := bb_ BK416 hb; clear hb hbox hg; have hnb9 := NB418_416.out; have hnc9 := NB416_418.out; obtain ⟨hcz10_0, hcz10_1, hcz10_2, hfz10_0, hfz10_1, hfz10_2⟩ := bX BK418.out; obtain ⟨hcz11_0, hcz11_1, hcz11_2, hfz11_0, hfz11_1, hfz11_2⟩ := bX BK416.out))
     refine bodyPost_ret (results_cell_row rfl _ _ gb416 92 #[.string ((ar l0 x9_1).f0), .int .i64 ((ar l0 x9_1).f1), .int .i64 ((ar l0 x9_1).f2)] (0, 0) _ rfl (by (with_reducible repeat (first | refine ah ?_ _ | refine ac ?_ | refine ai ?_ _)); refine aQ (cs := #[.string ((ar l0 x9_1).f0), .int .i64 ((ar l0 x9_1).f1), .int .i64 x417002_1]) ?_ 2 _ rfl; (with_reducible repeat (first | refine ah ?_ _ | refine ac ?_ | refine ai ?_ _)); refine aQ (cs := #[.string ((ar l0 x9_1).f0), .int .i64 x417001_1, .int .i64 x417002_1]) ?_ 1 _ rfl; (with_reducible repeat (first | refine ah ?_ _ | refine ac ?_ | refine ai ?_ _)); refine aQ (cs := #[.string x417000_1, .int .i64 x417001_1, .int .i64 x417002_1]) ?_ 0 _ rfl; (with_reducible repeat (first | refine ah ?_ _ | refine ac ?_ | refine ai ?_ _)); refine cC ?_ NB416_418.out _; (with_reducible repeat (first | refine ah ?_ _ | refine ac ?_ | refine ai ?_ _)); refine cC ?_ NB416_418.out _; (with_reducible repeat (first | refine ah ?_ _ | refine ac ?_ | refine ai ?_ _)); refine cC ?_ NB416_418.out _; (with_reducible repeat (first | refine ah ?_ _ | refine ac ?_ | refine ai ?_ _)); exact BK416.out) Tryz.underlying92 rfl ch) rfl ?_; exact ⟨u0_, bw_ HB⟩
    ·rw [if_neg c7] at H; have c7b0 := da c7; have c7b1 := dc c7; have H' := am_ H; clear H; obtain ⟨ad417, e417, hx417_0, hx417_1, hx417_2⟩ := fJ HR0.out x9_1 od_ od_; cases e417; replace hx417_0 := cb_ HB hx417_0; replace hx417_1 := cb_ HB hx417_1; replace hx417_2 := cb_ HB hx417_2; obtain ⟨p417, q417⟩ := pt_ x9_1 l0.length; go_wp2_with (first | (with_reducible refine gt_ 6 ?_; refine bx_ 6 #[.string (⟨#[]⟩ : ByteArray), .int .i64 0, .int .i64 0] 92 ?_; intro gb418 hg w12 hbox hb; have BK418 := am_ (hbox); have GE418 := gw_ HB hg; replace HB := bs_ HB hb; have NB416_418 := nl_ BK416 hg; have NB418_416 := ng_ BK416 hg; replace BK416 := bb_ BK416 hb; clear hb hbox hg; have hnb13 := NB418_416.out; have hnc13 := NB416_418.out; obtain ⟨hcz14_0, hcz14_1, hcz14_2, hfz14_0, hfz14_1, hfz14_2⟩ := bX BK418.out))
     go_roundg k1
     case measure => have := HK1.out; omega
     case rel => exact ⟨(wrap64 (x9_1 + 1)), (x417000_1), (x417001_1), (x417002_1), u1_, H', ⟨du⟩, ⟨by (with_reducible repeat (first | refine ah ?_ _ | refine ac ?_ | refine ai ?_ _)); refine cC ?_ NB416_418.out _; (with_reducible repeat (first | refine ah ?_ _ | refine ac ?_ | refine ai ?_ _)); refine cC ?_ NB416_418.out _; (with_reducible repeat (first | refine ah ?_ _ | refine ac ?_ | refine ai ?_ _)); refine cC ?_ NB416_418.out _; (with_reducible repeat (first | refine ah ?_ _ | refine ac ?_ | refine ai ?_ _)); exact BK416.out⟩, ⟨bw_ HB⟩⟩
   ·rw [if_neg c4] at H; have c4b0 := decide_eq_false c4; clear c4; simp only [Option.some.injEq, Prod.mk.injEq] at H; obtain ⟨rfl, rfl, rfl⟩ := H; obtain ⟨hcz15_0, hcz15_1, hcz15_2, hfz15_0, hfz15_1, hfz15_2⟩ := bX BK416.out; go_wp2; refine bodyPost_ret (results_cell_row rfl _ _ gb416 92 #[.string (⟨#[]⟩ : ByteArray), .int .i64 0, .int .i64 0] (0, 0) _ rfl (by (with_reducible repeat (first | refine ah ?_ _ | refine ac ?_ | refine ai ?_ _)); refine aQ (cs := #[.string (⟨#[]⟩ : ByteArray), .int .i64 0, .int .i64 x417002_1]) ?_ 2 _ rfl; (with_reducible repeat (first | refine ah ?_ _ | refine ac ?_ | refine ai ?_ _)); refine aQ (cs := #[.string (⟨#[]⟩ : ByteArray), .int .i64 x417001_1, .int .i64 x417002_1]) ?_ 1 _ rfl; (with_reducible repeat (first | refine ah ?_ _ | refine ac ?_ | refine ai ?_ _)); refine aQ (cs := #[.string x417000_1, .int .i64 x417001_1, .int .i64 x417002_1]) ?_ 0 _ rfl; (with_reducible repeat (first | refine ah ?_ _ | refine ac ?_ | refine ai ?_ _)); exact BK416.out) Tryz.underlying92 rfl ch) rfl ?_; exact ⟨u0_, bw_ HB⟩
def strconv_Itoa.f (a0 : Int) : Option ByteArray := if -9223372036854775808 ≤ a0 ∧ a0 ≤ 9223372036854775807 then some ⟨(Lib.itoa a0).toArray⟩ else none
theorem strconv_Itoa.below (w : World) (k : Nat) (os : Array Obj) : Below w.heap.size w (Go.Sort.grow (w.drewN k) os) :=
 ⟨rfl, rfl, rfl, by rw [Go.Sort.size_grow]; exact Nat.le_add_right _ _, fun i hi => Go.Sort.heap_grow_old (w.drewN k) os hi⟩
theorem strconv_Itoa.calls (a0 : Int) (r : ByteArray) (w : World) (hG : StopsIn w) (h : strconv_Itoa.f a0 = some r) :
  Calls Tryz.prog 149 #[.int .i64 a0] w fun e w' => e = .returned (.string r) ∧ Below w.heap.size w w' := by
 unfold strconv_Itoa.f at h
 by_cases hs : -9223372036854775808 ≤ a0 ∧ a0 ≤ 9223372036854775807
 case neg => rw [if_neg hs] at h; exact absurd h dg
 rw [if_pos hs] at h; have h := Option.some.inj h; subst h; refine (Go.Proofs.Tryz.strconv_Itoa a0 hs.1 hs.2 w hG.tab).mono ?_; rintro e w' ⟨rfl, k, os, rfl⟩; exact ⟨rfl, strconv_Itoa.below w k os⟩
def b9.v (s : ByteArray) : Int × Bool := match Lib.atoiAll s.data.toList with
 | .ok n => if -999999999 ≤ n ∧ n ≤ 999999999 ∧ Lib.itoa n = s.data.toList then (n, true) else (0, false)
 | _ => (0, false)
def b9.f (a0 : ByteArray) : Option (Int × Bool) := if a0.size ≤ 140737488355328 then some (b9.v a0) else none
theorem b9.atoi_ok (s : ByteArray) (hs : s.size ≤ 140737488355328) (n : Int) (h : Lib.atoiAll s.data.toList = .ok n) (w : World) :
  Calls Tryz.prog 148 #[.string s] w fun e w' => e = .returned (.tuple #[.int .i64 n, .nilIface]) ∧ Below w.heap.size w w' := by
 refine (Go.Proofs.Tryz.strconv_Atoi_ok s aA n h w).mono ?_; rintro e w' ⟨rfl, h1⟩; rcases h1 with rfl | ⟨t, rfl⟩
 ·exact ⟨rfl, Below.refl _ _⟩
 ·exact ⟨rfl, jr (Below.refl _ _) (Nat.le_refl _) _ _⟩
theorem b9.atoi_no (s : ByteArray) (hs : s.size ≤ 140737488355328) (h : ∀ n, Lib.atoiAll s.data.toList ≠ .ok n) (w : World) (hG : StopsIn w) :
  Calls Tryz.prog 148 #[.string s] w fun e w' => ∃ n t p, e = .returned (.tuple #[.int .i64 n, .iface t p]) ∧ Below w.heap.size w w' := by
 obtain ⟨⟨u1, v1, h1⟩, ⟨u2, v2, h2⟩⟩ := hG.errs; rcases hA : Lib.atoiAll s.data.toList with n | _ | _
 ·exact absurd hA (h n)
 ·refine (Go.Proofs.Tryz.strconv_Atoi_syntax_var s aA hA u1 v1 w h1).mono ?_; rintro e w' ⟨N, rfl, _, _, hb⟩; exact ⟨_, _, _, rfl, hb⟩
 ·refine (Go.Proofs.Tryz.strconv_Atoi_range_var s aA hA u2 v2 w h2).mono ?_; rintro e w' ⟨N, rfl, _, _, hb⟩; exact ⟨_, _, _, rfl, hb⟩
theorem b9.calls (a0 : ByteArray) (r1 : Int) (r2 : Bool) (w : World) (hG : StopsIn w) (h : b9.f a0 = some (r1, r2)) :
  Calls Tryz.prog 111 #[.string a0] w fun e w' => e = .returned (.tuple #[.int .i64 r1, .bool r2]) ∧ Below w.heap.size w w' := by
 unfold b9.f at h
 by_cases hs : a0.size ≤ 140737488355328
 case neg => rw [if_neg hs] at h; exact absurd h dg
 rw [if_pos hs] at h; have h := Option.some.inj h; have hG := am_ hG; rcases hA : Lib.atoiAll a0.data.toList with n | _ | _
 ·have hbd := Lib.atoiAll_bounds hA; have hok := b9.atoi_ok a0 hs n hA; have hit : aa (strconv_Itoa.f n = some ⟨(Lib.itoa n).toArray⟩) := ⟨if_pos hbd⟩; unfold b9.v at h
  rw [hA] at h; clear hA; by_cases hw : -999999999 ≤ n ∧ n ≤ 999999999
  ·have hwi : aa (bc.f n (-999999999) 999999999 = some true) := ⟨by unfold bc.f; rw [if_pos (show n ≥ -999999999 from hw.1), decide_eq_true hw.2]⟩; by_cases he : Lib.itoa n = a0.data.toList
   ·have heq : (⟨(Lib.itoa n).toArray⟩ : ByteArray) = a0 := by rw [he]
    have h2 : (n, true) = (r1, r2) := by rw [← h]; simp only [if_pos (show -999999999 ≤ n ∧ n ≤ 999999999 ∧ Lib.itoa n = a0.data.toList from ⟨hw.1, hw.2, he⟩)]
    obtain ⟨rfl, rfl⟩ := Prod.mk.inj h2; rw [heq] at hit; clear h h2 he heq hw hbd; go_enter Tryz.func111, Tryz.ntmps111
    go_wp2_with (first | (go_at_call 148; refine (hok _).mono ?_; rintro e w1 ⟨rfl, hb1⟩) | (go_at_call 64; refine (bc.calls _ _ _ _ _ hwi.out).mono ?_; rintro e w2 ⟨rfl, ⟨⟨q, rfl⟩⟩⟩) | (go_at_call 149; refine (strconv_Itoa.calls _ _ _ (StopsIn.below hG.out (aG hb1 q)) hit.out).mono ?_; rintro e w3 ⟨rfl, hb3⟩))
    go_ret2
    exact ⟨rfl, eD (aG hb1 q) hb1.size hb3⟩
   ·have heq : ¬ (⟨(Lib.itoa n).toArray⟩ : ByteArray).toList = a0.toList := fun e => he (by rw [ByteArray.toList_eq, ByteArray.toList_eq] at e; simpa using e)
    have h2 : (0, false) = (r1, r2) := by rw [← h]; simp only [if_neg (show ¬ (-999999999 ≤ n ∧ n ≤ 999999999 ∧ Lib.itoa n = a0.data.toList) from fun hh => he hh.2.2)]
    obtain ⟨rfl, rfl⟩ := Prod.mk.inj h2; obtain ⟨y, hy⟩ : ∃ y : ByteArray, (⟨(Lib.itoa n).toArray⟩ : ByteArray) = y := ⟨_, rfl⟩; rw [hy] at hit heq; have hb0 : (y.toList != a0.toList) = true := by simpa using heq
    have hb1_ : (y.toList == a0.toList) = false := by simpa using heq
    clear h h2 he hw hbd hy; go_enter Tryz.func111, Tryz.ntmps111
    go_wp2_with (first | (go_at_call 148; refine (hok _).mono ?_; rintro e w1 ⟨rfl, hb1⟩) | (go_at_call 64; refine (bc.calls _ _ _ _ _ hwi.out).mono ?_; rintro e w2 ⟨rfl, ⟨⟨q, rfl⟩⟩⟩) | (go_at_call 149; refine (strconv_Itoa.calls _ _ _ (StopsIn.below hG.out (aG hb1 q)) hit.out).mono ?_; rintro e w3 ⟨rfl, hb3⟩))
    go_ret2
    exact ⟨rfl, eD (aG hb1 q) hb1.size hb3⟩
  ·have hwi : aa (bc.f n (-999999999) 999999999 = some false) := ⟨by
    unfold bc.f
    by_cases h1 : n ≥ -999999999
    ·rw [if_pos h1, decide_eq_false aA]
    ·rw [if_neg h1]⟩
   have h2 : (0, false) = (r1, r2) := by rw [← h]; simp only [if_neg (show ¬ (-999999999 ≤ n ∧ n ≤ 999999999 ∧ Lib.itoa n = a0.data.toList) from fun hh => hw ⟨hh.1, hh.2.1⟩)]
   obtain ⟨rfl, rfl⟩ := Prod.mk.inj h2; clear h h2 hw hbd; go_enter Tryz.func111, Tryz.ntmps111
   go_wp2_with (first | (go_at_call 148; refine (hok _).mono ?_; rintro e w1 ⟨rfl, hb1⟩) | (go_at_call 64; refine (bc.calls _ _ _ _ _ hwi.out).mono ?_; rintro e w2 ⟨rfl, ⟨⟨q, rfl⟩⟩⟩) | (go_at_call 149; refine (strconv_Itoa.calls _ _ _ (StopsIn.below hG.out (aG hb1 q)) hit.out).mono ?_; rintro e w3 ⟨rfl, hb3⟩))
   go_ret2
   exact ⟨rfl, aG hb1 q⟩
 ·have hno := b9.atoi_no a0 hs (fun n e => by rw [hA] at e; cases e); have h2 : (0, false) = (r1, r2) := by rw [← h]; unfold b9.v; rw [hA]
  obtain ⟨rfl, rfl⟩ := Prod.mk.inj h2; clear h h2 hA; go_enter Tryz.func111, Tryz.ntmps111
  go_wp2_with (first | (go_at_call 148; refine (hno _ hG.out).mono ?_; rintro e w1 ⟨n, t, p, rfl, hb1⟩))
  go_ret2
  exact ⟨rfl, hb1⟩
 ·have hno := b9.atoi_no a0 hs (fun n e => by rw [hA] at e; cases e); have h2 : (0, false) = (r1, r2) := by rw [← h]; unfold b9.v; rw [hA]
  obtain ⟨rfl, rfl⟩ := Prod.mk.inj h2; clear h h2 hA; go_enter Tryz.func111, Tryz.ntmps111
  go_wp2_with (first | (go_at_call 148; refine (hno _ hG.out).mono ?_; rintro e w1 ⟨n, t, p, rfl, hb1⟩))
  go_ret2
  exact ⟨rfl, hb1⟩
def strings_Split.f (a0 a1 : ByteArray) : Option (List ByteArray) := if a0.size < 4294967281 ∧ 1 ≤ a1.size then some (Lib.splitB a1 0 (Lib.countB a0 a1) a0) else none
theorem strings_Split.calls (a0 a1 : ByteArray) (r : List ByteArray) (w : World) (hG : StopsIn w) (h : strings_Split.f a0 a1 = some r) :
  Calls Tryz.prog 150 #[.string a0, .string a1] w fun e w' => ∃ v0_ : Value, e = .returned (v0_) ∧ Kd.R Kd.string 9 w' w.heap.size (fun _ => True) v0_ r ∧ Below w.heap.size w w' := by
 unfold strings_Split.f at h
 by_cases hs : a0.size < 4294967281 ∧ 1 ≤ a1.size
 case neg => rw [if_neg hs] at h; exact absurd h dg
 rw [if_pos hs] at h; have h := Option.some.inj h; obtain ⟨m, hm⟩ := hG.max; have hle := Lib.countB_le a1 hs.2 a0.size a0 (Nat.le_refl _); have hlen := Lib.splitB_all a1 hs.2 0 _ a0 rfl; rw [h] at hlen; refine (Go.Proofs.Tryz.strings_Split a0 a1 m w hs.1 hm hs.2).mono ?_; rintro e w' ⟨rfl, rfl⟩; rw [h]; refine ⟨_, rfl, ?_, bU (Below.refl _ _) _⟩; have hh : (w.alloc (.cells (r.map Value.string).toArray 9)).heap[w.heap.size]? = some (.cells (r.map Value.string).toArray 9 (0, 0)) := by
  unfold World.alloc
  simp
 have hx := qA (enc := Value.string) (h1 := fun _ => rfl) (ok := fun _ => True) (xs := r) (cap := Lib.countB a0 a1 + 1) (Nat.le_refl _) hh aA (by have : maxLen = 9223372036854775807 := rfl; omega) (by simp [hlen]) trivial (fun j x hj => by simp [hj]); rw [hlen] at hx; exact hx
def bG.l0 : Nat → List ByteArray → List ByteArray → Int → Int → Option (Bool)
 | 0, _, _, _, _ => none
 | k + 1, x3, x8, x9, x10 => if x10 < x9 then (if 0 ≤ x10 then (if x10 < (x8.length : Int) then ((aw.f k (eT ByteArray.empty x8 x10)).bind fun t423 => (if t423 = true then (bG.l0 k x3 x8 x9 (wrap64 (x10 + 1))) else (some false))) else (none)) else (none)) else (some (decide ((x3.length : Int) ≤ 4)))
def bG.f (k : Nat) (a0 : ByteArray) : Option (Bool) := (strings_Split.f a0 (⟨#[44]⟩ : ByteArray)).bind fun t419 => (bG.l0 k t419 t419 (t419.length : Int) 0)
theorem bG.mono_l : ∀ k, M4 bG.l0 k
 | 0 => ⟨cU⟩
 | k + 1 => by have _ := bG.mono_l k; exact ⟨by intros; unfold bG.l0; exact mo_⟩
instance bG.mono (k : Nat) : M1 bG.f k := ⟨by have _ := bG.mono_l k; intros; unfold bG.f; exact mo_⟩
theorem bG.calls (k : Nat) (a0 : ByteArray) (r : Bool) (w : World) (hG : StopsIn w) (h : bG.f k a0 = some r) :
  Calls Tryz.prog 112 #[.string a0] w fun e w' => e = .returned (.bool r) ∧ Below w.heap.size w w' := by
 have HG_ := am_ hG; clear hG; have HB := am_ (Below.refl w.heap.size w); have H := h; clear h; unfold bG.f at H
 obtain ⟨t419, A2, H⟩ := bi_ H; have H' := am_ H; clear H; go_enter Tryz.func112, Tryz.ntmps112
 go_wp2_with (first | ((with_reducible refine gt_ 7 ?_); refine gf_ 7 Tryz.func150 (strings_Split.calls a0 (⟨#[44]⟩ : ByteArray) t419 _ ?side1 A2.out) ?_; (case side1 => exact i1); rintro e w3 ⟨v420, rfl, ho0, hb⟩; refine ⟨_, rfl, ?_⟩; have HO421 := am_ (Kd.R_lower ho0 (aq (bw_ HB))); replace HB := bs_ HB hb; (try clear hb); (try clear ho0); obtain ⟨Ao4, co4, eo4⟩ := Kd.R_slice HO421.out; subst eo4))
 go_loopg [10] k (fun kq v10 w' => ∃ (x10_1 : Int), v10 = .int .i64 x10_1 ∧ aa (bG.l0 kq t419 t419 (t419.length : Int) x10_1 = some r) ∧ aa (kq ≤ k) ∧ aa (Kd.R Kd.string 9 w' w.heap.size (fun _ => True) (.slice Ao4 t419.length co4) t419) ∧ aa (Kd.R Kd.string 9 w' w.heap.size (fun _ => True) (.slice Ao4 t419.length co4) t419) ∧ aa (Below w.heap.size w w'))
 case atStart => exact ⟨(0), u1_, H', ⟨Nat.le_refl _⟩, ⟨u122_⟩, ⟨u122_⟩, ⟨bw_ HB⟩⟩
 case round =>
  clear H'; obtain ⟨x10_1, rfl, HA, HK1, HO_3, HO_8, HB⟩ := hrel; cases gk with
  | zero => exact absurd HA.out (by simp [bG.l0])
  | succ k1 =>
   have H := HA.out; clear HA; simp only [bG.l0] at H; by_cases c5 : x10_1 < (t419.length : Int)
   ·rw [if_pos c5] at H; have c5b0 := decide_eq_true c5; clear c5; obtain ⟨c6b0, H⟩ := gd_ H; obtain ⟨c7b0, H⟩ := gd_ H; obtain ⟨t423, A8, H⟩ := bi_ H; cases t423
    ·replace H := hf_ H; obtain rfl := si_ H; obtain ⟨ad422, e422, hx422_0⟩ := Kd.at_string (Kd.R_reads' HO_8.out).2.2 x10_1 od_ od_; cases e422; obtain ⟨p422, q422⟩ := pt_ x10_1 t419.length; go_wp2_with (first | ((with_reducible refine gt_ 15 ?_); refine gD_ 15 Tryz.func108 (aw.calls k1 (eT ByteArray.empty t419 x10_1) false _ A8.out) ?_; intro nd))
     go_ret
     exact ⟨u0_, bw_ HB⟩
    ·replace H := ht_ H; have H' := am_ H; clear H; obtain ⟨ad422, e422, hx422_0⟩ := Kd.at_string (Kd.R_reads' HO_8.out).2.2 x10_1 od_ od_; cases e422; obtain ⟨p422, q422⟩ := pt_ x10_1 t419.length; go_wp2_with (first | ((with_reducible refine gt_ 15 ?_); refine gD_ 15 Tryz.func108 (aw.calls k1 (eT ByteArray.empty t419 x10_1) true _ A8.out) ?_; intro nd))
     go_roundg k1
     case measure => have := HK1.out; omega
     case rel => exact ⟨(wrap64 (x10_1 + 1)), u1_, H', ⟨du⟩, ⟨u5_⟩, ⟨u79_⟩, ⟨bw_ HB⟩⟩
   ·rw [if_neg c5] at H; have c5b0 := decide_eq_false c5; clear c5; obtain rfl := si_ H; go_wp2; go_ret
    exact ⟨u0_, bw_ HB⟩
theorem aI.fld92_1 (x0 : ByteArray) (x1 : Int) (x2 : Int) (w : World) : (Instr.field 92 (Value.agg #[Value.string x0, Value.int .i64 x1, Value.int .i64 x2]) 1).run Tryz.prog w = .ok (Value.int .i64 x1) w := by kernel_rfl
attribute [local go_sem] aI.fld92_1
mutual
def aI.j0 : Nat → List (S92) → Bool → ByteArray → List (S86) → Option (Bool)
 | 0, _, _, _, _ => none
 | k + 1, x0, x16, x425000, x425001 => if x16 = true then (some false) else (aI.l0 k x0 x425001 (x425001.length : Int) 0)
def aI.l0 : Nat → List (S92) → List (S86) → Int → Int → Option (Bool)
 | 0, _, _, _, _ => none
 | k + 1, x0, x18, x19, x20 => if x20 < x19 then (if 0 ≤ x20 then (if x20 < (x18.length : Int) then ((a6.f k x0 ((ak x18 x20).f0)).bind fun bt429 => (if bt429.2.1 = 1 then (aI.l0 k x0 x18 x19 (wrap64 (x20 + 1))) else (if bt429.2.1 = 2 then ((b9.f ((ak x18 x20).f1)).bind fun bt432 => (if bt432.2 = true then (aI.l0 k x0 x18 x19 (wrap64 (x20 + 1))) else (some false))) else (if bt429.2.1 = 3 then ((bG.f k ((ak x18 x20).f1)).bind fun t434 => (if t434 = true then (aI.l0 k x0 x18 x19 (wrap64 (x20 + 1))) else (some false))) else (some false))))) else (none)) else (none)) else (some true)
end
def aI.f (k : Nat) (l0 : List (S92)) (a1_0 : ByteArray) (l1_1 : List (S86)) : Option (Bool) := (az.f k l0).bind fun t425 => (if t425 = true then ((aW.f k a1_0 l1_1).bind fun t426 => (aI.j0 k l0 (!t426) a1_0 l1_1)) else (aI.j0 k l0 true a1_0 l1_1))
theorem aI.mono_l : ∀ k, M4 aI.j0 k ∧ M4 aI.l0 k
 | 0 => ⟨⟨cU⟩, ⟨cU⟩⟩
 | k + 1 => by obtain ⟨_, _⟩ := aI.mono_l k; exact ⟨⟨by intros; unfold aI.j0; exact mo_⟩, ⟨by intros; unfold aI.l0; exact mo_⟩⟩
instance aI.mono (k : Nat) : M3 aI.f k := ⟨by obtain ⟨_, _⟩ := aI.mono_l k; intros; unfold aI.f; exact mo_⟩
theorem aI.calls (k : Nat) (A0 : Option Addr) (c0 : Nat) (l0 : List (S92)) (a1_0 : ByteArray) (A1_1 : Option Addr) (c1_1 : Nat) (l1_1 : List (S86)) (r : Bool) (w : World) (hG : StopsIn w) (hr0 : Kd.C k92 w A0 l0.length l0) (hc0 : l0.length ≤ c0) (hr1_1 : Kd.C k86 w A1_1 l1_1.length l1_1) (hc1_1 : l1_1.length ≤ c1_1) (h : aI.f k l0 a1_0 l1_1 = some r) :
  Calls Tryz.prog 65 #[.slice A0 l0.length c0, .agg #[.string a1_0, .slice A1_1 l1_1.length c1_1]] w fun e w' => e = .returned (.bool r) ∧ Below w.heap.size w w' := by
 have hu44 := Tryz.underlying44; have hu86 := Tryz.underlying86; have HG_ := am_ hG; clear hG; have HR0 := am_ hr0; have HC0 := am_ hc0; clear hr0 hc0; have HR1_1 := am_ hr1_1; have HC1_1 := am_ hc1_1; clear hr1_1 hc1_1; have HB := am_ (Below.refl w.heap.size w); have H := h; clear h; unfold aI.f at H
 have HC3 := am_ H; clear H; go_enter Tryz.func65, Tryz.ntmps65
 go_upto_region 1 with (first | (with_reducible refine gt_ 3 ?_; refine bx_ 3 #[.string a1_0, .slice A1_1 l1_1.length c1_1] 44 ?_; intro gb424 hg w4 hbox hb; have BK424 := am_ (hbox); have GE424 := gw_ HB hg; replace HB := bs_ HB hb; clear hb hbox hg))
 (try simp only [Act.put, List.setIfInBounds_toArray, List.set_cons_zero, List.set_cons_succ])
 go_cut [16] (fun v16 wc => ∃ (kq : Nat) (x16_2 : Bool), v16 = .bool x16_2 ∧ aa (aI.j0 kq l0 x16_2 a1_0 l1_1 = some r) ∧ aa (kq ≤ k) ∧ aa (wc.heap[gb424]? = some (.cells #[.string a1_0, (.slice A1_1 l1_1.length c1_1)] 44 (0, 0))) ∧ aa (Below w.heap.size w wc))
 case first =>
  have H := HC3.out; clear HC3; obtain ⟨t425, A5, H⟩ := bi_ H; cases t425
  ·replace H := hf_ H; have H' := am_ H; clear H; go_wp2_with (first | ((with_reducible refine gt_ 10 ?_); refine gB_ 10 Tryz.func63 (az.calls k _ _ l0 false _ (kc_ HR0 HB) HC0.out A5.out) ?_; intro w11 hb; replace BK424 := bb_ BK424 hb; replace HB := bs_ HB hb; (try clear hb)))
   go_meet
   case rel => exact ⟨_, (true), u1_, H', ⟨jH⟩, ⟨u41_⟩, ⟨bw_ HB⟩⟩
  ·replace H := ht_ H; obtain ⟨t426, A7, H⟩ := bi_ H; have H' := am_ H; clear H; go_wp2_with (first | ((with_reducible refine gt_ 10 ?_); refine gB_ 10 Tryz.func63 (az.calls k _ _ l0 true _ (kc_ HR0 HB) HC0.out A5.out) ?_; intro w8 hb; replace BK424 := bb_ BK424 hb; replace HB := bs_ HB hb; (try clear hb); obtain ⟨hcz9_0, hcz9_1, hfz9_0, hfz9_1⟩ := bW BK424.out) | (go_at_call 109; (with_reducible refine (aW.calls k a1_0 _ _ l1_1 t426 _ (kc_ HR1_1 HB) HC1_1.out A7.out).mono ?_); rintro e w10 ⟨rfl, hb⟩; replace BK424 := bb_ BK424 hb; replace HB := bs_ HB hb; (try clear hb)))
   go_meet
   case rel => exact ⟨_, (!t426), u1_, H', ⟨jH⟩, ⟨u41_⟩, ⟨bw_ HB⟩⟩
 case rest =>
  clear HC3; obtain ⟨kq, x16_2, rfl, HA, HJ2, BK424, HB⟩ := hcut; cases kq with
  | zero => exact absurd HA.out (by simp [aI.j0])
  | succ kj2 =>
   have H := HA.out; clear HA; simp only [aI.j0] at H; cases x16_2
   ·replace H := hf_ H; have H' := am_ H; clear H; obtain ⟨hcz13_0, hcz13_1, hfz13_0, hfz13_1⟩ := bW BK424.out; go_wp2; go_loopg [20] kj2 (fun kq v20 w' => ∃ (x20_2 : Int), v20 = .int .i64 x20_2 ∧ aa (aI.l0 kq l0 l1_1 (l1_1.length : Int) x20_2 = some r) ∧ aa (kq ≤ kj2) ∧ aa (w'.heap[gb424]? = some (.cells #[.string a1_0, (.slice A1_1 l1_1.length c1_1)] 44 (0, 0))) ∧ aa (Below w.heap.size w w'))
    case atStart => exact ⟨(0), u1_, H', ⟨Nat.le_refl _⟩, ⟨u41_⟩, ⟨bw_ HB⟩⟩
    case round =>
     clear H'; try clear hcz13_0
     try clear hcz13_1
     try clear hfz13_0
     try clear hfz13_1
     obtain ⟨x20_2, rfl, HA, HK2, BK424, HB⟩ := hrel; cases gk with
     | zero => exact absurd HA.out (by simp [aI.l0])
     | succ k2 =>
      have H := HA.out; clear HA; simp only [aI.l0] at H; by_cases c14 : x20_2 < (l1_1.length : Int)
      ·rw [if_pos c14] at H; have c14b0 := decide_eq_true c14; clear c14; obtain ⟨c15b0, H⟩ := gd_ H; obtain ⟨c16b0, H⟩ := gd_ H; obtain ⟨⟨t429, t430, t431⟩, A17, H⟩ := bi_ H; dsimp only at H; by_cases c18 : t430 = 1
       ·rw [if_pos c18] at H; have c18b0 := db c18; have c18b1 := dd c18; clear c18; have H' := am_ H; clear H; obtain ⟨ad427, e427, hx427_0, hx427_1⟩ := cz HR1_1.out x20_2 od_ od_; cases e427; replace hx427_0 := cb_ HB hx427_0; replace hx427_1 := cb_ HB hx427_1; obtain ⟨p427, q427⟩ := pt_ x20_2 l1_1.length; go_wp2_with (first | (with_reducible refine gt_ 6 ?_; refine bx_ 6 #[.string (⟨#[]⟩ : ByteArray), .string (⟨#[]⟩ : ByteArray)] 86 ?_; intro gb428 hg w19 hbox hb; have BK428 := am_ (hbox); have GE428 := gw_ HB hg; replace HB := bs_ HB hb; have NB424_428 := nl_ BK424 hg; have NB428_424 := ng_ BK424 hg; replace BK424 := bb_ BK424 hb; clear hb hbox hg; have hnb20 := NB428_424.out; have hnc20 := NB424_428.out; obtain ⟨hcz21_0, hcz21_1, hfz21_0, hfz21_1⟩ := bW BK428.out) | ((with_reducible refine gt_ 27 ?_); refine gB_ 27 Tryz.func110 (a6.calls k2 _ _ l0 ((ak l1_1 x20_2).f0) t429 t430 t431 _ ?side1 HC0.out A17.out) ?_; (case side1 => exact lU); intro w22 hb; replace BK424 := bb_ BK424 hb; replace BK428 := am_ (bz (g := gb428) (o := .cells #[.string ((ak l1_1 x20_2).f0), .string ((ak l1_1 x20_2).f1)] 86 (0, 0)) u11_ hb); replace HB := bs_ HB hb; (try clear hb)))
        go_roundg k2
        case measure => have := HJ2.out; have := HK2.out; omega
        case rel => exact ⟨(wrap64 (x20_2 + 1)), u1_, H', ⟨by have := HJ2.out; have := HK2.out; omega⟩, ⟨u41_⟩, ⟨bw_ HB⟩⟩
       ·rw [if_neg c18] at H; have c18b0 := da c18; have c18b1 := dc c18; by_cases c23 : t430 = 2
        ·rw [if_pos c23] at H; have c23b0 := db c23; have c23b1 := dd c23; clear c23; obtain ⟨⟨t432, t433⟩, A24, H⟩ := bi_ H; dsimp only at H; cases t433
         ·replace H := hf_ H; obtain rfl := si_ H; obtain ⟨ad427, e427, hx427_0, hx427_1⟩ := cz HR1_1.out x20_2 od_ od_; cases e427; replace hx427_0 := cb_ HB hx427_0; replace hx427_1 := cb_ HB hx427_1; obtain ⟨p427, q427⟩ := pt_ x20_2 l1_1.length; go_wp2_with (first | (with_reducible refine gt_ 6 ?_; refine bx_ 6 #[.string (⟨#[]⟩ : ByteArray), .string (⟨#[]⟩ : ByteArray)] 86 ?_; intro gb428 hg w32 hbox hb; have BK428 := am_ (hbox); have GE428 := gw_ HB hg; replace HB := bs_ HB hb; have NB424_428 := nl_ BK424 hg; have NB428_424 := ng_ BK424 hg; replace BK424 := bb_ BK424 hb; clear hb hbox hg; have hnb33 := NB428_424.out; have hnc33 := NB424_428.out; obtain ⟨hcz34_0, hcz34_1, hfz34_0, hfz34_1⟩ := bW BK428.out) | ((with_reducible refine gt_ 27 ?_); refine gB_ 27 Tryz.func110 (a6.calls k2 _ _ l0 ((ak l1_1 x20_2).f0) t429 t430 t431 _ ?side1 HC0.out A17.out) ?_; (case side1 => exact lU); intro w35 hb; replace BK424 := bb_ BK424 hb; replace BK428 := am_ (bz (g := gb428) (o := .cells #[.string ((ak l1_1 x20_2).f0), .string ((ak l1_1 x20_2).f1)] 86 (0, 0)) u11_ hb); replace HB := bs_ HB hb; (try clear hb); obtain ⟨hcz36_0, hcz36_1, hfz36_0, hfz36_1⟩ := bW BK428.out) | ((with_reducible refine gt_ 36 ?_); refine gB_ 36 Tryz.func111 (b9.calls ((ak l1_1 x20_2).f1) t432 false _ ?side1 A24.out) ?_; (case side1 => exact i1); intro w37 hb; replace BK424 := bb_ BK424 hb; replace BK428 := bb_ BK428 hb; replace HB := bs_ HB hb; (try clear hb)))
          go_ret
          exact ⟨u0_, bw_ HB⟩
         ·replace H := ht_ H; have H' := am_ H; clear H; obtain ⟨ad427, e427, hx427_0, hx427_1⟩ := cz HR1_1.out x20_2 od_ od_; cases e427; replace hx427_0 := cb_ HB hx427_0; replace hx427_1 := cb_ HB hx427_1; obtain ⟨p427, q427⟩ := pt_ x20_2 l1_1.length; go_wp2_with (first | (with_reducible refine gt_ 6 ?_; refine bx_ 6 #[.string (⟨#[]⟩ : ByteArray), .string (⟨#[]⟩ : ByteArray)] 86 ?_; intro gb428 hg w26 hbox hb; have BK428 := am_ (hbox); have GE428 := gw_ HB hg; replace HB := bs_ HB hb; have NB424_428 := nl_ BK424 hg; have NB428_424 := ng_ BK424 hg; replace BK424 := bb_ BK424 hb; clear hb hbox hg; have hnb27 := NB428_424.out; have hnc27 := NB424_428.out; obtain ⟨hcz28_0, hcz28_1, hfz28_0, hfz28_1⟩ := bW BK428.out) | ((with_reducible refine gt_ 27 ?_); refine gB_ 27 Tryz.func110 (a6.calls k2 _ _ l0 ((ak l1_1 x20_2).f0) t429 t430 t431 _ ?side1 HC0.out A17.out) ?_; (case side1 => exact lU); intro w29 hb; replace BK424 := bb_ BK424 hb; replace BK428 := am_ (bz (g := gb428) (o := .cells #[.string ((ak l1_1 x20_2).f0), .string ((ak l1_1 x20_2).f1)] 86 (0, 0)) u11_ hb); replace HB := bs_ HB hb; (try clear hb); obtain ⟨hcz30_0, hcz30_1, hfz30_0, hfz30_1⟩ := bW BK428.out) | ((with_reducible refine gt_ 36 ?_); refine gB_ 36 Tryz.func111 (b9.calls ((ak l1_1 x20_2).f1) t432 true _ ?side1 A24.out) ?_; (case side1 => exact i1); intro w31 hb; replace BK424 := bb_ BK424 hb; replace BK428 := bb_ BK428 hb; replace HB := bs_ HB hb; (try clear hb)))
          go_roundg k2
          case measure => have := HJ2.out; have := HK2.out; omega
          case rel => exact ⟨(wrap64 (x20_2 + 1)), u1_, H', ⟨by have := HJ2.out; have := HK2.out; omega⟩, ⟨u41_⟩, ⟨bw_ HB⟩⟩
        ·rw [if_neg c23] at H; have c23b0 := da c23; have c23b1 := dc c23; by_cases c38 : t430 = 3
         ·rw [if_pos c38] at H; have c38b0 := db c38; have c38b1 := dd c38; clear c38; obtain ⟨t434, A39, H⟩ := bi_ H; cases t434
          ·replace H := hf_ H; obtain rfl := si_ H; obtain ⟨ad427, e427, hx427_0, hx427_1⟩ := cz HR1_1.out x20_2 od_ od_; cases e427; replace hx427_0 := cb_ HB hx427_0; replace hx427_1 := cb_ HB hx427_1; obtain ⟨p427, q427⟩ := pt_ x20_2 l1_1.length; go_wp2_with (first | (with_reducible refine gt_ 6 ?_; refine bx_ 6 #[.string (⟨#[]⟩ : ByteArray), .string (⟨#[]⟩ : ByteArray)] 86 ?_; intro gb428 hg w47 hbox hb; have BK428 := am_ (hbox); have GE428 := gw_ HB hg; replace HB := bs_ HB hb; have NB424_428 := nl_ BK424 hg; have NB428_424 := ng_ BK424 hg; replace BK424 := bb_ BK424 hb; clear hb hbox hg; have hnb48 := NB428_424.out; have hnc48 := NB424_428.out; obtain ⟨hcz49_0, hcz49_1, hfz49_0, hfz49_1⟩ := bW BK428.out) | ((with_reducible refine gt_ 27 ?_); refine gB_ 27 Tryz.func110 (a6.calls k2 _ _ l0 ((ak l1_1 x20_2).f0) t429 t430 t431 _ ?side1 HC0.out A17.out) ?_; (case side1 => exact lU); intro w50 hb; replace BK424 := bb_ BK424 hb; replace BK428 := am_ (bz (g := gb428) (o := .cells #[.string ((ak l1_1 x20_2).f0), .string ((ak l1_1 x20_2).f1)] 86 (0, 0)) u11_ hb); replace HB := bs_ HB hb; (try clear hb); obtain ⟨hcz51_0, hcz51_1, hfz51_0, hfz51_1⟩ := bW BK428.out) | ((with_reducible refine gt_ 45 ?_); refine gB_ 45 Tryz.func112 (bG.calls k2 ((ak l1_1 x20_2).f1) false _ ?side1 A39.out) ?_; (case side1 => exact i1); intro w52 hb; replace BK424 := bb_ BK424 hb; replace BK428 := bb_ BK428 hb; replace HB := bs_ HB hb; (try clear hb)))
           go_ret
           exact ⟨u0_, bw_ HB⟩
          ·replace H := ht_ H; have H' := am_ H; clear H; obtain ⟨ad427, e427, hx427_0, hx427_1⟩ := cz HR1_1.out x20_2 od_ od_; cases e427; replace hx427_0 := cb_ HB hx427_0; replace hx427_1 := cb_ HB hx427_1; obtain ⟨p427, q427⟩ := pt_ x20_2 l1_1.length; go_wp2_with (first | (with_reducible refine gt_ 6 ?_; refine bx_ 6 #[.string (⟨#[]⟩ : ByteArray), .string (⟨#[]⟩ : ByteArray)] 86 ?_; intro gb428 hg w41 hbox hb; have BK428 := am_ (hbox); have GE428 := gw_ HB hg; replace HB := bs_ HB hb; have NB424_428 := nl_ BK424 hg; have NB428_424 := ng_ BK424 hg; replace BK424 := bb_ BK424 hb; clear hb hbox hg; have hnb42 := NB428_424.out; have hnc42 := NB424_428.out; obtain ⟨hcz43_0, hcz43_1, hfz43_0, hfz43_1⟩ := bW BK428.out) | ((with_reducible refine gt_ 27 ?_); refine gB_ 27 Tryz.func110 (a6.calls k2 _ _ l0 ((ak l1_1 x20_2).f0) t429 t430 t431 _ ?side1 HC0.out A17.out) ?_; (case side1 => exact lU); intro w44 hb; replace BK424 := bb_ BK424 hb; replace BK428 := am_ (bz (g := gb428) (o := .cells #[.string ((ak l1_1 x20_2).f0), .string ((ak l1_1 x20_2).f1)] 86 (0, 0)) u11_ hb); replace HB := bs_ HB hb; (try clear hb); obtain ⟨hcz45_0, hcz45_1, hfz45_0, hfz45_1⟩ := bW BK428.out) | ((with_reducible refine gt_ 45 ?_); refine gB_ 45 Tryz.func112 (bG.calls k2 ((ak l1_1 x20_2).f1) true _ ?side1 A39.out) ?_; (case side1 => exact i1); intro w46 hb; replace BK424 := bb_ BK424 hb; replace BK428 := bb_ BK428 hb; replace HB := bs_ HB hb; (try clear hb)))
           go_roundg k2
           case measure => have := HJ2.out; have := HK2.out; omega
           case rel => exact ⟨(wrap64 (x20_2 + 1)), u1_, H', ⟨by have := HJ2.out; have := HK2.out; omega⟩, ⟨u41_⟩, ⟨bw_ HB⟩⟩
         ·rw [if_neg c38] at H; have c38b0 := da c38; have c38b1 := dc c38; obtain rfl := si_ H; obtain ⟨ad427, e427, hx427_0, hx427_1⟩ := cz HR1_1.out x20_2 od_ od_; cases e427; replace hx427_0 := cb_ HB hx427_0; replace hx427_1 := cb_ HB hx427_1; obtain ⟨p427, q427⟩ := pt_ x20_2 l1_1.length; go_wp2_with (first | (with_reducible refine gt_ 6 ?_; refine bx_ 6 #[.string (⟨#[]⟩ : ByteArray), .string (⟨#[]⟩ : ByteArray)] 86 ?_; intro gb428 hg w53 hbox hb; have BK428 := am_ (hbox); have GE428 := gw_ HB hg; replace HB := bs_ HB hb; have NB424_428 := nl_ BK424 hg; have NB428_424 := ng_ BK424 hg; replace BK424 := bb_ BK424 hb; clear hb hbox hg; have hnb54 := NB428_424.out; have hnc54 := NB424_428.out; obtain ⟨hcz55_0, hcz55_1, hfz55_0, hfz55_1⟩ := bW BK428.out) | ((with_reducible refine gt_ 27 ?_); refine gB_ 27 Tryz.func110 (a6.calls k2 _ _ l0 ((ak l1_1 x20_2).f0) t429 t430 t431 _ ?side1 HC0.out A17.out) ?_; (case side1 => exact lU); intro w56 hb; replace BK424 := bb_ BK424 hb; replace BK428 := am_ (bz (g := gb428) (o := .cells #[.string ((ak l1_1 x20_2).f0), .string ((ak l1_1 x20_2).f1)] 86 (0, 0)) u11_ hb); replace HB := bs_ HB hb; (try clear hb)))
          go_ret
          exact ⟨u0_, bw_ HB⟩
      ·rw [if_neg c14] at H; have c14b0 := decide_eq_false c14; clear c14; obtain rfl := si_ H; go_wp2; go_ret
       exact ⟨u0_, bw_ HB⟩
   ·replace H := ht_ H; obtain rfl := si_ H; go_wp2; go_ret
    exact ⟨u0_, bw_ HB⟩
def eb (key : ByteArray) : Nat → List S46 → Int
 | _, [] => -1
 | i, x :: l => if (x.f1.f0.toList == key.toList) = true then (i : Int) else eb key (i + 1) l
theorem qr {P : Program} {ops : Array Oper} {Q : Exit → Act → World → Prop} {rest : List Oper} {oi : Oper} {a : Act} {w : World} (N : Option Tmp) (hd : oi.dst = N) (hg : oi.guard = none) {f : FuncId} {n : Tmp} {cb : Array Value} (hv : a.eval (.tmp n) = .func (.func f) #[] cb) {fn : Func} {ags : Array Operand} {ts : Array TypeId} (hf : P.funcs[f]? = some fn) (hname : (fn.name == "runtime.NumGoroutine") = false) (hb : fn.body.isSome = true) (args : Array Value)
  (hop : oi.op = .call { callee := .value (.tmp n), args := ags, argTypes := ts }) (hargs : ags.map a.eval ++ cb = args)
  (h : Calls P f args w fun e w' => ∃ v, e = .returned v ∧ wpList P ops Q rest (a.put N v) w') : wpList P ops Q (oi :: rest) a w := by
 refine wpList_plain hg fun K hK => ?_
 have he := Go.Proofs.YtnjjdojonflckaaGreatDoorW.PrintLast.enters_ hf hname hb args w; have hrun : (execOp a.eval oi).run P w = .ok (.enter f args) w := by
  unfold execOp
  simp [hop, hv, resolve, Deferred.ofValue, invoke, hargs, he]
 unfold Oper.wp
 rw [hrun, Oper.upon_enter]; refine h.mono fun e w'' hh => ?_
 obtain ⟨v, rfl, hk⟩ := hh; subst hd; exact hK _ _ hk
theorem rz (id : Int) (k0 : ByteArray) (A : Option Addr) (n c g : Nat) (key : ByteArray) (w : World) (hk : w.cell? ⟨g, 0, none⟩ = some (.string key)) :
  Calls Tryz.prog 114 #[.agg #[.int .i64 id, .string k0, .slice A n c], .pointer (some ⟨g, 0, none⟩)] w fun e w' => e = .returned (.bool (k0.toList == key.toList)) ∧ Below w.heap.size w w' := by
 have hu0_ := Tryz.underlying46; have HB := am_ (Below.refl w.heap.size w); go_enter Tryz.func114, Tryz.ntmps114
 go_wp2_with (first | (with_reducible refine gt_ 2 ?_; refine bx_ 2 #[.int .i64 id, .string k0, .slice A n c] 46 ?_; intro gb hg w2 hbox hb; have BK := am_ hbox; have hk2 := (hb.cell (World.block_lt_of_cell? _ _ hk)).trans hk; replace HB := am_ (cG HB.out hb); clear hb hbox hg hk; have hcz_0 : w2.cell? ⟨gb, 0, none⟩ = some (.int .i64 id) := (bP BK.out 0).trans rfl; have hcz_1 : w2.cell? ⟨gb, 1, none⟩ = some (.string k0) := (bP BK.out 1).trans rfl))
 go_ret
 exact ⟨rfl, HB.out⟩
theorem rowIdx (A : Option Addr) (c : Nat) (l : List S46) (g : Nat) (key : ByteArray) (w : World) (hr : Kd.C k46 w A l.length l) (hk : w.cell? ⟨g, 0, none⟩ = some (.string key)) (hn : l.length ≤ 9223372036854775807) :
  Calls Tryz.prog 113 #[.slice A l.length c, .func (.func 114) #[] #[.pointer (some ⟨g, 0, none⟩)]] w fun e w' => e = .returned (.int .i64 (eb key 0 l)) ∧ Below w.heap.size w w' := by
 have hu0_ := Tryz.underlying46; have HB := am_ (Below.refl w.heap.size w); have HR := am_ hr; have HK := am_ hk; clear hr hk; go_enter Tryz.func113, Tryz.ntmps113
 go_wp2; go_loopw [8] (fun v wr => ∃ i : Nat, v = .int .i64 (i : Int) ∧ i ≤ l.length ∧ aa (eb key 0 l = eb key i (l.drop i)) ∧ aa (Below w.heap.size w wr)) (fun v _ => match v with | .int _ i => l.length - i.toNat | _ => 0)
 case atStart => exact ⟨0, rfl, Nat.zero_le _, ⟨rfl⟩, HB⟩
 case round =>
  clear HB; obtain ⟨i, rfl, hi, HE, HB⟩ := hrel; rcases Nat.lt_or_ge i l.length with hlt | hge
  ·obtain ⟨ad, A2, c2, e, hx0, hx1, hx2, _, _⟩ := dG HR.out (i : Int) aA aA; cases e; replace hx0 := cb_ HB hx0; replace hx1 := cb_ HB hx1; replace hx2 := cb_ HB hx2; simp only [Int.toNat_natCast] at hx0 hx1 hx2; have hkr := (HB.out.cell (World.block_lt_of_cell? w _ HK.out)).trans HK.out; have hrd : ab l (i : Int) = l[i] := by
    unfold ab; simp [List.getD_eq_getElem?_getD, List.getElem?_eq_getElem hlt]
   have hst : eb key i (l.drop i) = if ((ab l (i : Int)).f1.f0.toList == key.toList) = true then (i : Int) else eb key (i + 1) (l.drop (i + 1)) := by
    rw [List.drop_eq_getElem_cons hlt, hrd]; rfl
   have HS := am_ hst; clear hst hrd; have p1 : ((i : Int) < (l.length : Int)) = True := eq_true aA; have p0 : (0 ≤ (i : Int)) = True := eq_true aA; have HX := am_ hkr; clear hkr; generalize hm_ : ((ab l (i : Int)).f1.f0.toList == key.toList) = mm at HS; have HM := am_ hm_; clear hm_; cases mm
   ·go_wp2_with (first | ((with_reducible refine eU (_f := 114) rfl ?_); refine qr (some 16) rfl rfl cO Tryz.func114 ch rfl #[.agg #[.int .i64 (ab l (i : Int)).f0, .string (ab l (i : Int)).f1.f0, .slice A2 (ab l (i : Int)).f1.f1.length c2], .pointer (some ⟨g, 0, none⟩)] rfl u111_ ?_; (with_reducible refine (rz _ _ _ _ _ g key _ HX.out).mono ?_); rintro e w3 ⟨rfl, hb⟩; refine ⟨_, rfl, ?_⟩; replace HB := am_ (cG HB.out hb); clear hb; rw [HM.out]))
    go_roundw
    case rel => exact ⟨i + 1, eY, aA, ⟨HE.out.trans (HS.out.trans (if_neg bC))⟩, HB⟩
    case measure => simp; omega
   ·go_wp2_with (first | ((with_reducible refine eU (_f := 114) rfl ?_); refine qr (some 16) rfl rfl cO Tryz.func114 ch rfl #[.agg #[.int .i64 (ab l (i : Int)).f0, .string (ab l (i : Int)).f1.f0, .slice A2 (ab l (i : Int)).f1.f1.length c2], .pointer (some ⟨g, 0, none⟩)] rfl u111_ ?_; (with_reducible refine (rz _ _ _ _ _ g key _ HX.out).mono ?_); rintro e w3 ⟨rfl, hb⟩; refine ⟨_, rfl, ?_⟩; replace HB := am_ (cG HB.out hb); clear hb; rw [HM.out]))
    go_ret
    exact ⟨by rw [HE.out, HS.out]; rfl, HB.out⟩
  ·have hil : i = l.length := by omega
   subst hil; have p1 : (((l.length : Nat) : Int) < (l.length : Int)) = False := eq_false aA; go_wp2; go_ret
   refine ⟨?_, HB.out⟩; rw [HE.out, List.drop_eq_nil_of_le (Nat.le_refl _)]; rfl
def cW.f (_a0_0 : List (S92)) (a0_1 : List (S46)) (_a0_2 : List (S76)) (_a0_3 : Int) (a1 : ByteArray) : Option Int := some (eb a1 0 a0_1)
theorem cW.calls (A0_0 : Option Addr) (c0_0 : Nat) (l0_0 : List (S92)) (A0_1 : Option Addr) (c0_1 : Nat) (l0_1 : List (S46)) (A0_2 : Option Addr) (c0_2 : Nat) (l0_2 : List (S76)) (a0_3 : Int) (a1 : ByteArray) (r : Int) (w : World) (hr0_0 : Kd.C k92 w A0_0 l0_0.length l0_0) (hc0_0 : l0_0.length ≤ c0_0) (hr0_1 : Kd.C k46 w A0_1 l0_1.length l0_1) (hc0_1 : l0_1.length ≤ c0_1) (hr0_2 : Kd.C k76 w A0_2 l0_2.length l0_2) (hc0_2 : l0_2.length ≤ c0_2) (h : cW.f l0_0 l0_1 l0_2 a0_3 a1 = some r) :
  Calls Tryz.prog 66 #[.agg #[.slice A0_0 l0_0.length c0_0, .slice A0_1 l0_1.length c0_1, .slice A0_2 l0_2.length c0_2, .int .i64 a0_3], .string a1] w fun e w' => e = .returned (.int .i64 r) ∧ Below w.heap.size w w' := by
 obtain rfl := Option.some.inj h; have hu0_ := Tryz.underlying27; have hu1_ := Tryz.underlying9; have hlen := hr0_1.2.1; have HB := am_ (Below.refl w.heap.size w); have HR := am_ hr0_1; clear hr0_0 hc0_0 hr0_1 hc0_1 hr0_2 hc0_2 h; go_enter Tryz.func66, Tryz.ntmps66
 go_wp2_with (first | (with_reducible refine gt_ 2 ?_; refine bx_ 2 #[.slice A0_0 l0_0.length c0_0, .slice A0_1 l0_1.length c0_1, .slice A0_2 l0_2.length c0_2, .int .i64 a0_3] 27 ?_; intro gb hg w2 hbox hb; have BK := am_ hbox; replace HB := am_ (cG HB.out hb); clear hb hbox hg) | (with_reducible refine gt_ 3 ?_; refine bx_ 3 #[.string a1] 9 ?_; intro gk hg w3 hbox hb; replace BK := am_ (bz (g := gb) (o := .cells #[.slice A0_0 l0_0.length c0_0, .slice A0_1 l0_1.length c0_1, .slice A0_2 l0_2.length c0_2, .int .i64 a0_3] 27 (0, 0)) BK.out hb); have BQ := am_ hbox; replace HB := am_ (cG HB.out hb); clear hb hbox hg; have hcz_1 : w3.cell? ⟨gb, 1, none⟩ = some (.slice A0_1 l0_1.length c0_1) := (bP BK.out 1).trans rfl; have HKK := am_ (show w3.cell? ⟨gk, 0, none⟩ = some (.string a1) from (bP BQ.out 0).trans rfl)) | ((with_reducible refine ei (f := 113) rfl ?_); refine gD (some 8) rfl rfl Tryz.func113 ch rfl #[.slice A0_1 l0_1.length c0_1, .func (.func 114) #[] #[.pointer (some ⟨gk, 0, none⟩)]] rfl (by first | rfl | (simp only [List.map_toArray, List.map_cons, List.map_nil]; rfl)) ?_; (with_reducible refine (rowIdx A0_1 c0_1 l0_1 gk a1 _ (Kd.C_below HR.out HB.out) HKK.out hlen).mono ?_); rintro e w4 ⟨rfl, hb⟩; refine ⟨_, rfl, ?_⟩; replace HB := am_ (cG HB.out hb); clear hb))
 go_ret
 exact ⟨rfl, HB.out⟩
def ay.l0 : Nat → List Int → List Int → Int → Int → Option (Bool)
 | 0, _, _, _, _ => none
 | k + 1, x0, x1, x12, x13 => if x13 < x12 then (if 0 ≤ x13 then (if x13 < (x0.length : Int) then (if x13 < (x1.length : Int) then (if (rd x0 x13) = (rd x1 x13) then (ay.l0 k x0 x1 x12 (wrap64 (x13 + 1))) else (some false)) else (none)) else (none)) else (none)) else (some true)
def ay.f (k : Nat) (l0 : List Int) (l1 : List Int) : Option (Bool) := if (l0.length : Int) = (l1.length : Int) then (ay.l0 k l0 l1 (l0.length : Int) 0) else (some false)
theorem ay.mono_l : ∀ k, M4 ay.l0 k
 | 0 => ⟨cU⟩
 | k + 1 => by have _ := ay.mono_l k; exact ⟨by intros; unfold ay.l0; exact mo_⟩
instance ay.mono (k : Nat) : M2 ay.f k := ⟨by have _ := ay.mono_l k; intros; unfold ay.f; exact mo_⟩
theorem ay.calls (k : Nat) (A0 : Option Addr) (c0 : Nat) (l0 : List Int) (A1 : Option Addr) (c1 : Nat) (l1 : List Int) (r : Bool) (w : World) (hr0 : Kd.C (Kd.int .i64) w A0 l0.length l0) (hc0 : l0.length ≤ c0) (hr1 : Kd.C (Kd.int .i64) w A1 l1.length l1) (hc1 : l1.length ≤ c1) (h : ay.f k l0 l1 = some r) :
  Calls Tryz.prog 154 #[.slice A0 l0.length c0, .slice A1 l1.length c1] w fun e w' => e = .returned (.bool r) ∧ Drawn0 w w' := by
 have HR0 := am_ hr0; have HC0 := am_ hc0; clear hr0 hc0; have HR1 := am_ hr1; have HC1 := am_ hc1; clear hr1 hc1; have H := h; clear h; unfold ay.f at H
 by_cases c3 : (l0.length : Int) = (l1.length : Int)
 ·rw [if_pos c3] at H; have c3b0 := db c3; have c3b1 := dd c3; have c3b2 : (l0.length == l1.length) = true := by first | simpa using c3 | (simp at c3 ⊢; omega)
  clear c3; have H' := am_ H; clear H; go_enter Tryz.func154, Tryz.ntmps154
  go_wp2; repeat (go_quiet (fail); try go_wp2)
  go_loopg [13] k (fun kq v13 w' => ∃ (x13_1 : Int), v13 = .int .i64 x13_1 ∧ aa (ay.l0 kq l0 l1 (l0.length : Int) x13_1 = some r) ∧ aa (kq ≤ k) ∧ Drawn0 w w')
  case atStart => exact ⟨(0), u1_, H', ⟨Nat.le_refl _⟩, u3_⟩
  case round =>
   clear H'; try clear c1
   try clear c3
   try clear c3b0
   try clear c3b1
   try clear c3b2
   obtain ⟨x13_1, rfl, HA, HK1, ⟨m1, rfl⟩⟩ := hrel; cases gk with
   | zero => exact absurd HA.out (by simp [ay.l0])
   | succ k1 =>
    have H := HA.out; clear HA; simp only [ay.l0] at H; by_cases c4 : x13_1 < (l0.length : Int)
    ·rw [if_pos c4] at H; have c4b0 := decide_eq_true c4; clear c4; obtain ⟨c5b0, H⟩ := gd_ H; obtain ⟨c6b0, H⟩ := gd_ H; obtain ⟨c7b0, H⟩ := gd_ H; by_cases c8 : (rd l0 x13_1) = (rd l1 x13_1)
     ·rw [if_pos c8] at H; have c8b0 := db c8; have c8b1 := dd c8; clear c8; have H' := am_ H; clear H; obtain ⟨ad435, e435, hx435_0⟩ := Kd.at_int HR0.out x13_1 od_ od_; cases e435; obtain ⟨p435, q435⟩ := pt_ x13_1 l0.length; obtain ⟨ad436, e436, hx436_0⟩ := Kd.at_int HR1.out x13_1 od_ od_; cases e436; obtain ⟨p436, q436⟩ := pt_ x13_1 l1.length; go_wp2; repeat (go_quiet (fail); try go_wp2)
      go_roundg k1
      case measure => have := HK1.out; omega
      case rel => exact ⟨(wrap64 (x13_1 + 1)), u1_, H', ⟨du⟩, u3_⟩
     ·rw [if_neg c8] at H; have c8b0 := da c8; have c8b1 := dc c8; obtain rfl := si_ H; obtain ⟨ad435, e435, hx435_0⟩ := Kd.at_int HR0.out x13_1 od_ od_; cases e435; obtain ⟨p435, q435⟩ := pt_ x13_1 l0.length; obtain ⟨ad436, e436, hx436_0⟩ := Kd.at_int HR1.out x13_1 od_ od_; cases e436; obtain ⟨p436, q436⟩ := pt_ x13_1 l1.length; go_wp2; repeat (go_quiet (fail); try go_wp2)
      go_ret
      exact ⟨u4_, u3_⟩
    ·rw [if_neg c4] at H; have c4b0 := decide_eq_false c4; clear c4; obtain rfl := si_ H; go_wp2; repeat (go_quiet (fail); try go_wp2)
     go_ret
     exact ⟨u4_, u3_⟩
 ·rw [if_neg c3] at H; have c3b0 := da c3; have c3b1 := dc c3; have c3b2 : (l0.length == l1.length) = false := by first | simpa using c3 | (simp at c3 ⊢; omega)
  obtain rfl := si_ H; go_enter Tryz.func154, Tryz.ntmps154
  go_wp2; repeat (go_quiet (fail); try go_wp2)
  go_ret
  exact ⟨u4_, u3_⟩
end Go.Proofs.YtnjjdojonflckaaGreatDoor.PFnExactIndexOk
