/- Contracts of Go functions, each told as a plain Lean function. -/
import Derived.Test.YtnjjdojonflckaaGreatDoorUPFnExactIndexDocx9
namespace Go.Proofs.YtnjjdojonflckaaGreatDoor.PFnExactIndexDoc
open Go.RowKit Go.Proofs.YtnjjdojonflckaaGreatDoorW.PrintWords Go.Proofs.YtnjjdojonflckaaGreatDoorW.PrintLast Go.Proofs.YtnjjdojonflckaaGreatDoorW.PrintMore
attribute [local go_sem] aW aX bQ bO cm cl bu br bN bP
set_option linter.unusedVariables false
set_option linter.unusedSimpArgs false
set_option maxHeartbeats 8000000
set_option maxRecDepth 100000
def bq.l0 : Nat → List ByteArray → ByteArray → Int → Option (List ByteArray)
 | 0, _, _, _ => none
 | k + 1, x0, x1, x5 => if x5 < (x0.length : Int) then (if 0 ≤ x5 then (if (Op.bytesLess ((fg ByteArray.empty x0 x5).toList) x1.toList) = true then (bq.l0 k x0 x1 (wrap64 (x5 + 1))) else (if (fg ByteArray.empty x0 x5).toList = x1.toList then (some x0) else ((some (([] : List ByteArray) : List ByteArray)).bind fun y277 => (if x5 ≤ (x0.length : Int) then ((some (x0.take (x5 : Int).toNat : List ByteArray)).bind fun y280 => (if y277.length + y280.length < 8796093022208 then ((some (y277 ++ y280 : List ByteArray)).bind fun y285 => ((some (([x1] : List ByteArray) : List ByteArray)).bind fun y288 => (if y285.length + y288.length < 8796093022208 then ((some (y285 ++ y288 : List ByteArray)).bind fun y291 => ((some (x0.drop (x5 : Int).toNat : List ByteArray)).bind fun y294 => (if y291.length + y294.length < 8796093022208 then (some (y291 ++ y294)) else (none)))) else (none)))) else (none))) else (none))))) else (none)) else ((some (([] : List ByteArray) : List ByteArray)).bind fun y302 => (if 0 ≤ x5 then (if x5 ≤ (x0.length : Int) then ((some (x0.take (x5 : Int).toNat : List ByteArray)).bind fun y305 => (if y302.length + y305.length < 8796093022208 then ((some (y302 ++ y305 : List ByteArray)).bind fun y310 => ((some (([x1] : List ByteArray) : List ByteArray)).bind fun y313 => (if y310.length + y313.length < 8796093022208 then ((some (y310 ++ y313 : List ByteArray)).bind fun y316 => ((some (x0.drop (x5 : Int).toNat : List ByteArray)).bind fun y319 => (if y316.length + y319.length < 8796093022208 then (some (y316 ++ y319)) else (none)))) else (none)))) else (none))) else (none)) else (none)))
def bq.f (k : Nat) (l0 : List ByteArray) (a1 : ByteArray) : Option (List ByteArray) := bq.l0 k l0 a1 0
def bq.T6 : Bool × List (List Nat × List Nat) := (true, [([], []), ([], []), ([], []), ([1, 2], [1, 2]), ([0, 3], [0, 3]), ([], []), ([5], [5]), ([4, 6, 4], [4, 6]), ([], []), ([], []), ([8, 9], [8, 9]), ([7, 10, 7], [7, 10]), ([11, 11, 0, 1, 2, 3, 4, 5, 6, 7, 8, 9, 10, 11], [11])])
def bq.B6 : List Nat := [0, 0, 0, 6, 15, 0, 32, 127, 0, 0, 768, 2047, 4095]
theorem bq.tab6 : dw .any (fm Tryz.f160 6) = bq.T6 := by kernel_rfl
theorem bq.bits6 : de bq.T6.2 bq.B6 = true := by kernel_rfl
theorem bq.calls (k : Nat) (P0_ : Nat → Prop) (u9000_ : Value) (l0 : List ByteArray) (a1 : ByteArray) (r : List ByteArray) (w0 w : World) (hB : Below w0.heap.size w0 w) (ho0 : Kd.R Kd.string 9 w w0.heap.size P0_ u9000_ l0) (h : bq.f k l0 a1 = some r) :
  Calls Tryz.prog 160 #[u9000_, .string a1] w fun e w' => ∃ v0_ : Value, e = .returned (v0_) ∧ Kd.R Kd.string 9 w' w0.heap.size (fun k_ => (P0_ k_ ∨ w.heap.size ≤ k_)) v0_ r ∧ Below w0.heap.size w0 w' ∧ Kept w w' (fun k_ => P0_ k_) := by
 have HO0 := am_ (show Kd.R Kd.string 9 w w0.heap.size (fun k_ => (P0_ k_ ∨ w.heap.size ≤ k_)) u9000_ l0 from Kd.R_mono ho0 (fun k_ hk => (.inl hk))); have HK := am_ (Kept.refl w (fun k_ => P0_ k_)); have HW0 := am_ hB.size; have HB := am_ hB; clear hB; have H := h; clear h; unfold bq.f at H
 have H' := am_ H; clear H; go_enter Tryz.func160, Tryz.ntmps160
 go_wp2; go_loopg [5] k (fun kq v5 w' => ∃ (x5_1 : Int), v5 = .int .i64 x5_1 ∧ aa (bq.l0 kq l0 a1 x5_1 = some r) ∧ aa (kq ≤ k) ∧ aa (Kd.R Kd.string 9 w' w0.heap.size (fun k_ => (P0_ k_ ∨ w.heap.size ≤ k_)) u9000_ l0) ∧ aa (Kept w w' (fun k_ => P0_ k_)) ∧ aa (Below w0.heap.size w0 w'))
 case atStart => exact ⟨(0), u1_, H', ⟨Nat.le_refl _⟩, ⟨aR_ HO0.out⟩, ⟨u2_⟩, ⟨bw_ HB⟩⟩
 case round =>
  clear H'; obtain ⟨x5_1, rfl, HA, HK1, HO_0, HK, HB⟩ := hrel; cases gk with
  | zero => exact absurd HA.out (by simp [bq.l0])
  | succ k1 =>
   have H := HA.out; clear HA; simp only [bq.l0] at H; by_cases c3 : x5_1 < (l0.length : Int)
   ·rw [if_pos c3] at H; have c3b0 := decide_eq_true c3; clear c3; obtain ⟨c4b0, H⟩ := gd_ H; have HC_ := am_ H; clear H; obtain ⟨Ao6, co6, eo6⟩ := Kd.R_slice HO_0.out; subst eo6; obtain ⟨ad275, e275, hx275_0⟩ := Kd.at_string (Kd.R_reads' HO_0.out).2.2 x5_1 od_ od_; cases e275; obtain ⟨p275, q275⟩ := pt_ x5_1 l0.length; have H := HC_.out; clear HC_; by_cases c5 : (Op.bytesLess ((fg ByteArray.empty l0 x5_1).toList) a1.toList) = true
    ·rw [if_pos c5] at H; have c5b0 : (Op.bytesLess ((fg ByteArray.empty l0 x5_1).toList) a1.toList) = true := c5; clear c5; have H' := am_ H; clear H; (first | rw [c5b0] | (simp only [ap, au]; rw [c5b0]) | skip)
     go_wp2; go_roundg k1
     case measure => have := HK1.out; omega
     case rel => exact ⟨(wrap64 (x5_1 + 1)), u1_, H', ⟨dm⟩, ⟨aR_ HO_0.out⟩, ⟨u2_⟩, ⟨bw_ HB⟩⟩
    ·rw [if_neg c5] at H; have c5b0 : (Op.bytesLess ((fg ByteArray.empty l0 x5_1).toList) a1.toList) = false := by simpa using c5
     clear c5; have HC_ := am_ H; clear H; (first | rw [c5b0] | (simp only [ap, au]; rw [c5b0]) | skip)
     obtain ⟨ad276, e276, hx276_0⟩ := Kd.at_string (Kd.R_reads' HO_0.out).2.2 x5_1 od_ od_; obtain rfl : ad275 = ad276 := (by injection e276); obtain ⟨p276, q276⟩ := pt_ x5_1 l0.length; have H := HC_.out; clear HC_; by_cases c7 : (fg ByteArray.empty l0 x5_1).toList = a1.toList
     ·rw [if_pos c7] at H; have c7b0 := cV c7; have c7b1 := cW c7; clear c7; obtain rfl := si_ H; (first | rw [c7b0] | (simp only [ap, au]; rw [c7b0]) | skip)
      go_wp2; go_ret
      exact ⟨_, u0_, aR_ HO_0.out, bw_ HB, u2_⟩
     ·rw [if_neg c7] at H; have c7b0 := cU c7; have c7b1 := cT c7; obtain ⟨y277, hy277⟩ : ∃ y_ : List ByteArray, y_ = (([] : List ByteArray)) := ⟨_, rfl⟩; replace H : (if x5_1 ≤ (l0.length : Int) then ((some (l0.take (x5_1 : Int).toNat : List ByteArray)).bind fun y280 => (if y277.length + y280.length < 8796093022208 then ((some (y277 ++ y280 : List ByteArray)).bind fun y285 => ((some (([a1] : List ByteArray) : List ByteArray)).bind fun y288 => (if y285.length + y288.length < 8796093022208 then ((some (y285 ++ y288 : List ByteArray)).bind fun y291 => ((some (l0.drop (x5_1 : Int).toNat : List ByteArray)).bind fun y294 => (if y291.length + y294.length < 8796093022208 then (some (y291 ++ y294)) else (none)))) else (none)))) else (none))) else (none)) = some r := by first | (rw [hy277]; with_reducible exact H) | (have H2_ := (Option.bind_some _ _).symm.trans H; rw [hy277]; with_reducible exact H2_) | (have H2_ := (Option.bind_some _ _).symm.trans H; with_reducible exact H2_) | with_reducible exact H | (rw [hy277]; exact H) | exact H
      have Ny277 := am_ hy277; clear hy277; have c9b0 := eq_true (od_ : 0 ≤ x5_1); obtain ⟨c10b0, c10b1, H⟩ := ge_ H; generalize hy280 : ((l0.take (x5_1 : Int).toNat) : List ByteArray) = y280 at H; have Ny280 := am_ hy280.symm; clear hy280; obtain ⟨LMc11, H⟩ := gl_ H; generalize hy285 : ((y277 ++ y280) : List ByteArray) = y285 at H; have Ny285 := am_ hy285.symm; clear hy285; generalize hy288 : ((([a1] : List ByteArray)) : List ByteArray) = y288 at H; have Ny288 := am_ hy288.symm; clear hy288; obtain ⟨LMc12, H⟩ := gl_ H; generalize hy291 : ((y285 ++ y288) : List ByteArray) = y291 at H; have Ny291 := am_ hy291.symm; clear hy291; have c13b0 := eq_true (od_ : 0 ≤ x5_1); have c14b0 := eq_true (od_ : x5_1 ≤ (l0.length : Int)); generalize hy294 : ((l0.drop (x5_1 : Int).toNat) : List ByteArray) = y294 at H; have Ny294 := am_ hy294.symm; clear hy294; obtain ⟨LMc15, H⟩ := gl_ H; generalize hy299 : ((y291 ++ y294) : List ByteArray) = y299 at H; have Ny299 := am_ hy299.symm; clear hy299; obtain rfl := si_ H; (first | rw [c7b0] | (simp only [ap, au]; rw [c7b0]) | skip)
      try go_wp2
      replace HO_0 := am_ (Kd.R_drew HO_0.out); replace HK := am_ (Kept.drew HK.out); replace HB := am_ (aN HB.out); have q18 : (x5_1 : Int) ≤ ((l0.length : Int) : Int) := od_; obtain ⟨i018, hi018, _, hsz18, _⟩ := info_parts eX; have hroom18 : l0.length ≤ co6 := (Kd.R_reads' HO_0.out).2.1; have hC18 : Kd.F Kd.string _ _ (some ad275) l0.length l0 := (Kd.V_at (base := w0.heap.size) (Kd.R_V HO_0.out)).2.2; have hcut18 := n4 (P := Tryz.prog) 30 9 .i64 Tryz.underlying30 hi018 (some ad275) l0.length co6 x5_1 (od_) q18 hroom18; have hr18 := Kd.F_take (m := (x5_1 : Int).toNat) hC18 u7_; have hy18 : y280.length = (x5_1 : Int).toNat := (by rw [Ny280.out, List.length_take]; omega); rw [← Ny280.out] at hr18; rw [← hy18] at hcut18; have HO284 := am_ (show Kd.V Kd.string 9 _ w0.heap.size _ (.slice (some ad275) y280.length co6) y280 from Kd.V_mk u7_ hr18); have HC284 := am_ (show y280.length ≤ co6 from u7_); clear hr18 hC18 hroom18 hi018 hsz18; have KY18 := am_ hy18; clear hy18; replace q18 := eq_true q18; have q19 : (x5_1 : Int) ≤ ((l0.length : Int) : Int) := od_; obtain ⟨i019, hi019, _, hsz19, _⟩ := info_parts eX; have hroom19 : l0.length ≤ co6 := (Kd.R_reads' HO_0.out).2.1; have hC19 : Kd.F Kd.string _ _ (some ad275) l0.length l0 := (Kd.V_at (base := w0.heap.size) (Kd.R_V HO_0.out)).2.2; have q019 : (0 : Int) ≤ (x5_1 : Int) := od_; have hcut19 := kB (P := Tryz.prog) 30 9 .i64 Tryz.underlying30 hi019 1 hsz19 (some ad275) l0.length co6 x5_1 q019 q19; have hr19 := Kd.F_cut (m := (x5_1 : Int).toNat) (c := co6) hC19 u7_ hroom19; obtain ⟨A19, hA19⟩ : ∃ A1, A1 = (if co6 = (x5_1 : Int).toNat then (some ad275) else ((some ad275) : Option Addr).map (·.add ((x5_1 : Int).toNat * 1))) := ⟨_, rfl⟩; obtain ⟨c19, hc19⟩ : ∃ c1, c1 = co6 - (x5_1 : Int).toNat := ⟨_, rfl⟩; have hy19 : y294.length = l0.length - (x5_1 : Int).toNat := (by rw [Ny294.out, List.length_drop] <;> omega); rw [show (l0).drop (x5_1 : Int).toNat = y294 from Ny294.out.symm] at hr19; replace hr19 : Kd.F Kd.string _ _ A19 y294.length y294 := (by rw [hA19]; exact hr19); rw [← hy19, ← hA19, ← hc19] at hcut19; have HO298 := am_ (show Kd.V Kd.string 9 _ w0.heap.size _ (.slice A19 y294.length c19) y294 from Kd.V_mk (by rw [hy19, hc19]; exact Nat.sub_le_sub_right hroom19 _) hr19); have HC298 := am_ (show y294.length ≤ c19 from by rw [hy19, hc19]; exact Nat.sub_le_sub_right hroom19 _); clear hr19 hC19 hroom19 hi019 hsz19 hc19; have KY19 := am_ hy19; have KA19 := am_ hA19; clear hy19 hA19; replace q19 := eq_true q19; refine dd (n := 13) (S := fun w' => True) (ds := []) (bm_ 13 0) bY rfl rfl trivial (fun hHeld => ?_); refine bH bq.tab6 bq.bits6 (fun HT_ HW_ => ?_); generalize wr.drew = w17 at HO_0 HK HB HO284 HO298 hHeld ⊢; refine pv_ 1 34 ?_; refine pv_ 2 35 ?_; refine pv_ 3 36 ?_; refine pv_ 5 38 ?_; refine pv_ 8 41 ?_; refine pv_ 9 42 ?_; refine pv_ 10 43 ?_; refine rA (σ := Value × Value × Value) 3 (bm_ 13 1919) (fun s_ => [(33, s_.1), (37, s_.2.1), (39, s_.2.2)]) (fun s_ w' => (Kd.V Kd.string 9 w' w0.heap.size (fun k_ => (P0_ k_ ∨ w.heap.size ≤ k_) ∧ some k_ ≠ (s_.2.1 : Value).ownBlock ∧ some k_ ≠ (s_.2.2 : Value).ownBlock) (.slice (some ad275) y280.length co6) y280) ∧ (Kd.R Kd.string 9 w' w0.heap.size (fun k_ => (P0_ k_ ∨ w.heap.size ≤ k_) ∧ some k_ ≠ (s_.2.2 : Value).ownBlock ∧ some k_ ≠ (.slice (some ad275) l0.length co6 : Value).ownBlock) s_.2.1 y285) ∧ (Kd.R Kd.string 9 w' w0.heap.size (fun k_ => (P0_ k_ ∨ w.heap.size ≤ k_) ∧ some k_ ≠ (s_.2.1 : Value).ownBlock ∧ some k_ ≠ (.slice (some ad275) l0.length co6 : Value).ownBlock) s_.2.2 y288) ∧ (Kd.V Kd.string 9 w' w0.heap.size (fun k_ => (P0_ k_ ∨ w.heap.size ≤ k_) ∧ some k_ ≠ (s_.2.1 : Value).ownBlock ∧ some k_ ≠ (s_.2.2 : Value).ownBlock) (.slice A19 y294.length c19) y294) ∧ (Kd.R Kd.string 9 w' w0.heap.size (fun k_ => (P0_ k_ ∨ w.heap.size ≤ k_) ∧ some k_ ≠ (s_.2.1 : Value).ownBlock ∧ some k_ ≠ (s_.2.2 : Value).ownBlock) (.slice (some ad275) l0.length co6) l0) ∧ (Kept w w' (fun k_ => P0_ k_)) ∧ (Below w0.heap.size w0 w')) ?_ ?_; rotate_left
      ·intro hCont; refine two_ (i := 0) (j := 6) (Ni := some 33) (Nj := some 39) (bm_ 13 1839) (bm_ 13 1902) rfl rfl rfl rfl (iV HT_.out bY) aC aC (fun K hK => ?_) (fun K hK => ?_)
       ·skip
        refine Kd.R_lit_step Kd.string _ 9 ?hg (N := 33) ?hd (xs := ([] : List ByteArray)) (inner := []) (ok := fun _ => True) (okp := fun _ => True) ?hr ?hp (fun _ hk => hk) trivial (Below.refl _ _) (Nat.le_refl _) cM ?_; (case hd => rfl); (case hg => rfl); (case hr => exact u6_); (case hp => exact ii); intro v278 w20 ho21 hb hg_ hnew_; clear hg_ hnew_; (first | rw [← Ny277.out] at ho21 | (simp only [Int.reduceToNat] at ho21; rw [← Ny277.out] at ho21))
        replace HO284 := am_ (Kd.V_elder' (aV_ HO284.out) (Kd.R_base ho21) hb); replace HO298 := am_ (Kd.V_elder' (aV_ HO298.out) (Kd.R_base ho21) hb); have HO279 := am_ (Kd.R_lower (Kd.R_new' (Kd.R_newM (M := fun k_ => (P0_ k_ ∨ w.heap.size ≤ k_)) ho21 iB (fun k_ h_ => .inr h_)) (Kd.R_lt (aR_ HO_0.out))) (al (bw_ HB))); replace HO_0 := am_ (Kd.R_elder' (aR_ HO_0.out) (Kd.R_base ho21) hb); replace HK := am_ (Kept.below (S := (fun k_ => P0_ k_)) u2_ hb); replace HB := bs_ HB hb; clear hb ho21; refine hK.out _ _ trivial (fun hHeld => ?_); clear hK K; refine nm_ ?_; refine two_ (i := 4) (j := 6) (Ni := some 37) (Nj := some 39) (bm_ 13 1855) (bm_ 13 1903) rfl rfl rfl rfl (iV HT_.out bY) aC aC (fun K hK => ?_) (fun K hK => ?_)
        ·skip
         refine Kd.R_append_rows_step Kd.string (w0 := w0) w0.heap.size cO (.tmp 33) (.tmp 36) 30 9 (.string ⟨#[]⟩) 16 rfl Tryz.underlying30 eX rfl aC u7_ v278 y277 y280 _ _ _ (fun k_ => (P0_ k_ ∨ w.heap.size ≤ k_) ∧ some k_ ≠ (.slice (some ad275) l0.length co6 : Value).ownBlock) (fun _ => False) rfl rfl ?aO ?aR (fun _ _ h => h) (fun _ h => h.elim) ?aF ?aB ?aS ?aL ?_; (case aR => exact (kV_ HO284))
         (case aB => exact fL)
         (case aF => exact (fun k_ hk => ⟨(.inr (Nat.le_trans iB hk)), Kd.fresh' (Kd.R_lt (aR_ HO_0.out)) k_ hk⟩))
         (case aO => exact (by (with_reducible repeat (first | apply Kd.R_alloc | apply Kd.R_drewN | apply Kd.R_drew)); exact Kd.R_mono HO279.out (fun _ hk => ⟨hk.1.1, hk.2⟩)))
         (case aS => exact fJ)
         (case aL => have := LMc11.out; omega)
         intro v286 w22 ho hb hg hat; rw [← Ny285.out] at ho; replace HO_0 := am_ (Kd.R_after (ok := (fun k_ => (P0_ k_ ∨ w.heap.size ≤ k_))) (aR_ HO_0.out) hg hat); replace HO284 := am_ (Kd.V_afterv (ok := (fun k_ => (P0_ k_ ∨ w.heap.size ≤ k_))) (aV_ HO284.out) hg hat); replace HO298 := am_ (Kd.V_afterv (ok := (fun k_ => (P0_ k_ ∨ w.heap.size ≤ k_))) (aV_ HO298.out) hg hat); replace HB := am_ (hb); replace HK := am_ (Kept.of_grown (S := (fun k_ => P0_ k_)) hg u2_ (fun k_ e_ => (HO279.out.1 k_ e_).1.1)); have HO287 := am_ (ho); clear HO279 ho hb hg hat; refine hK.out _ _ trivial (fun hHeld => ?_); clear hK K; refine nm_ ?_; refine ov_ 6 39 (fun K hK => ?_); refine Kd.R_lit_step Kd.string _ 9 ?hg (N := 39) ?hd (xs := ([a1] : List ByteArray)) (inner := [.string a1]) (ok := fun _ => True) (okp := fun _ => True) ?hr ?hp (fun _ hk => hk) trivial (Below.refl _ _) (Nat.le_refl _) cM ?_; (case hd => rfl); (case hg => rfl); (case hr => exact u6_); (case hp => exact u30_); intro v289 w23 ho24 hb hg_ hnew_; clear hg_ hnew_; (first | rw [← Ny288.out] at ho24 | (simp only [Int.reduceToNat] at ho24; rw [← Ny288.out] at ho24))
         replace HO284 := am_ (Kd.V_elder' (aV_ HO284.out) (Kd.R_base ho24) hb); replace HO298 := am_ (Kd.V_elder' (aV_ HO298.out) (Kd.R_base ho24) hb); have HO290 := am_ (Kd.R_lower (Kd.R_new' (Kd.R_new' (Kd.R_newM (M := fun k_ => (P0_ k_ ∨ w.heap.size ≤ k_)) ho24 iB (fun k_ h_ => .inr h_)) (Kd.R_lt (aR_ HO_0.out))) (Kd.R_lt (aR_ HO287.out))) (al (bw_ HB))); replace HO_0 := am_ (Kd.R_elder' (aR_ HO_0.out) (Kd.R_base ho24) hb); replace HO287 := am_ (Kd.R_elder' (aR_ HO287.out) (Kd.R_base ho24) hb); replace HK := am_ (Kept.below (S := (fun k_ => P0_ k_)) u2_ hb); replace HB := bs_ HB hb; clear hb ho24; refine hK.out _ _ trivial (fun hHeld => ?_); clear hK K; refine nm_ ?_; exact gj mZ (hCont (v278, v286, v289) _ ⟨(by (with_reducible repeat (first | apply Kd.V_alloc | apply Kd.V_drewN | apply Kd.V_drew)); exact Kd.V_mono HO284.out (fun _ hk => ⟨hk.1.1, ⟨hk.1.2, hk.2⟩⟩)), (by (with_reducible repeat (first | apply Kd.R_alloc | apply Kd.R_drewN | apply Kd.R_drew)); exact Kd.R_mono HO287.out (fun _ hk => ⟨hk.1.1, ⟨hk.2, hk.1.2⟩⟩)), (by (with_reducible repeat (first | apply Kd.R_alloc | apply Kd.R_drewN | apply Kd.R_drew)); exact Kd.R_mono HO290.out (fun _ hk => ⟨hk.1.1.1, ⟨hk.2, hk.1.2⟩⟩)), (by (with_reducible repeat (first | apply Kd.V_alloc | apply Kd.V_drewN | apply Kd.V_drew)); exact Kd.V_mono HO298.out (fun _ hk => ⟨hk.1.1, ⟨hk.1.2, hk.2⟩⟩)), u65_, u2_, (bw_ HB)⟩)
        ·skip
         refine Kd.R_lit_step Kd.string _ 9 ?hg (N := 39) ?hd (xs := ([a1] : List ByteArray)) (inner := [.string a1]) (ok := fun _ => True) (okp := fun _ => True) ?hr ?hp (fun _ hk => hk) trivial (Below.refl _ _) (Nat.le_refl _) cM ?_; (case hd => rfl); (case hg => rfl); (case hr => exact u6_); (case hp => exact u30_); intro v289 w22 ho23 hb hg_ hnew_; clear hg_ hnew_; (first | rw [← Ny288.out] at ho23 | (simp only [Int.reduceToNat] at ho23; rw [← Ny288.out] at ho23))
         replace HO284 := am_ (Kd.V_elder' (aV_ HO284.out) (Kd.R_base ho23) hb); replace HO298 := am_ (Kd.V_elder' (aV_ HO298.out) (Kd.R_base ho23) hb); have HO290 := am_ (Kd.R_lower (Kd.R_new' (Kd.R_new' (Kd.R_newM (M := fun k_ => (P0_ k_ ∨ w.heap.size ≤ k_)) ho23 iB (fun k_ h_ => .inr h_)) (Kd.R_lt (aR_ HO_0.out))) (Kd.R_lt (aR_ HO279.out))) (al (bw_ HB))); replace HO_0 := am_ (Kd.R_elder' (aR_ HO_0.out) (Kd.R_base ho23) hb); replace HO279 := am_ (Kd.R_elder' (aR_ HO279.out) (Kd.R_base ho23) hb); replace HK := am_ (Kept.below (S := (fun k_ => P0_ k_)) u2_ hb); replace HB := bs_ HB hb; clear hb ho23; refine hK.out _ _ trivial (fun hHeld => ?_); clear hK K; refine nm_ ?_; refine ov_ 4 37 (fun K hK => ?_); refine Kd.R_append_rows_step Kd.string (w0 := w0) w0.heap.size cO (.tmp 33) (.tmp 36) 30 9 (.string ⟨#[]⟩) 16 rfl Tryz.underlying30 eX rfl aC u7_ v278 y277 y280 _ _ _ (fun k_ => (P0_ k_ ∨ w.heap.size ≤ k_) ∧ some k_ ≠ (.slice (some ad275) l0.length co6 : Value).ownBlock ∧ some k_ ≠ (v289 : Value).ownBlock) (fun _ => False) rfl rfl ?aO ?aR (fun _ _ h => h) (fun _ h => h.elim) ?aF ?aB ?aS ?aL ?_; (case aR => exact (kV_ HO284))
         (case aB => exact fL)
         (case aF => exact u96_)
         (case aO => exact u55_)
         (case aS => exact fJ)
         (case aL => have := LMc11.out; omega)
         intro v286 w24 ho hb hg hat; rw [← Ny285.out] at ho; replace HO_0 := am_ (Kd.R_after (ok := (fun k_ => (P0_ k_ ∨ w.heap.size ≤ k_) ∧ some k_ ≠ (v289 : Value).ownBlock)) u66_ hg hat); replace HO284 := am_ (Kd.V_afterv (ok := (fun k_ => (P0_ k_ ∨ w.heap.size ≤ k_) ∧ some k_ ≠ (v289 : Value).ownBlock)) (by (with_reducible repeat (first | apply Kd.V_alloc | apply Kd.V_drewN | apply Kd.V_drew)); exact Kd.V_mono HO284.out (fun _ hk => ⟨⟨hk.1.1, hk.2⟩, hk.1.2⟩)) hg hat); replace HO298 := am_ (Kd.V_afterv (ok := (fun k_ => (P0_ k_ ∨ w.heap.size ≤ k_) ∧ some k_ ≠ (v289 : Value).ownBlock)) (by (with_reducible repeat (first | apply Kd.V_alloc | apply Kd.V_drewN | apply Kd.V_drew)); exact Kd.V_mono HO298.out (fun _ hk => ⟨⟨hk.1.1, hk.2⟩, hk.1.2⟩)) hg hat); replace HO290 := am_ (Kd.R_after (ok := (fun k_ => (P0_ k_ ∨ w.heap.size ≤ k_) ∧ some k_ ≠ (.slice (some ad275) l0.length co6 : Value).ownBlock)) u56_ hg hat); replace HB := am_ (hb); replace HK := am_ (Kept.of_grown (S := (fun k_ => P0_ k_)) hg u2_ (fun k_ e_ => (HO279.out.1 k_ e_).1.1.1)); have HO287 := am_ (ho); clear HO279 ho hb hg hat; refine hK.out _ _ trivial (fun hHeld => ?_); clear hK K; refine nm_ ?_; exact gj mZ (hCont (v278, v286, v289) _ ⟨u59_, u34_, u60_, u61_, u22_, u2_, (bw_ HB)⟩)
       ·skip
        refine Kd.R_lit_step Kd.string _ 9 ?hg (N := 39) ?hd (xs := ([a1] : List ByteArray)) (inner := [.string a1]) (ok := fun _ => True) (okp := fun _ => True) ?hr ?hp (fun _ hk => hk) trivial (Below.refl _ _) (Nat.le_refl _) cM ?_; (case hd => rfl); (case hg => rfl); (case hr => exact u6_); (case hp => exact u30_); intro v289 w20 ho21 hb hg_ hnew_; clear hg_ hnew_; (first | rw [← Ny288.out] at ho21 | (simp only [Int.reduceToNat] at ho21; rw [← Ny288.out] at ho21))
        replace HO284 := am_ (Kd.V_elder' (aV_ HO284.out) (Kd.R_base ho21) hb); replace HO298 := am_ (Kd.V_elder' (aV_ HO298.out) (Kd.R_base ho21) hb); have HO290 := am_ (Kd.R_lower (Kd.R_new' (Kd.R_newM (M := fun k_ => (P0_ k_ ∨ w.heap.size ≤ k_)) ho21 iB (fun k_ h_ => .inr h_)) (Kd.R_lt (aR_ HO_0.out))) (al (bw_ HB))); replace HO_0 := am_ (Kd.R_elder' (aR_ HO_0.out) (Kd.R_base ho21) hb); replace HK := am_ (Kept.below (S := (fun k_ => P0_ k_)) u2_ hb); replace HB := bs_ HB hb; clear hb ho21; refine hK.out _ _ trivial (fun hHeld => ?_); clear hK K; refine nm_ ?_; refine ov_ 0 33 (fun K hK => ?_); refine Kd.R_lit_step Kd.string _ 9 ?hg (N := 33) ?hd (xs := ([] : List ByteArray)) (inner := []) (ok := fun _ => True) (okp := fun _ => True) ?hr ?hp (fun _ hk => hk) trivial (Below.refl _ _) (Nat.le_refl _) cM ?_; (case hd => rfl); (case hg => rfl); (case hr => exact u6_); (case hp => exact ii); intro v278 w22 ho23 hb hg_ hnew_; clear hg_ hnew_; (first | rw [← Ny277.out] at ho23 | (simp only [Int.reduceToNat] at ho23; rw [← Ny277.out] at ho23))
        replace HO284 := am_ (Kd.V_elder' (aV_ HO284.out) (Kd.R_base ho23) hb); replace HO298 := am_ (Kd.V_elder' (aV_ HO298.out) (Kd.R_base ho23) hb); have HO279 := am_ (Kd.R_lower (Kd.R_new' (Kd.R_new' (Kd.R_newM (M := fun k_ => (P0_ k_ ∨ w.heap.size ≤ k_)) ho23 iB (fun k_ h_ => .inr h_)) (Kd.R_lt (aR_ HO_0.out))) (Kd.R_lt (aR_ HO290.out))) (al (bw_ HB))); replace HO_0 := am_ (Kd.R_elder' (aR_ HO_0.out) (Kd.R_base ho23) hb); replace HO290 := am_ (Kd.R_elder' (aR_ HO290.out) (Kd.R_base ho23) hb); replace HK := am_ (Kept.below (S := (fun k_ => P0_ k_)) u2_ hb); replace HB := bs_ HB hb; clear hb ho23; refine hK.out _ _ trivial (fun hHeld => ?_); clear hK K; refine nm_ ?_; refine ov_ 4 37 (fun K hK => ?_); refine Kd.R_append_rows_step Kd.string (w0 := w0) w0.heap.size cO (.tmp 33) (.tmp 36) 30 9 (.string ⟨#[]⟩) 16 rfl Tryz.underlying30 eX rfl aC u7_ v278 y277 y280 _ _ _ (fun k_ => (P0_ k_ ∨ w.heap.size ≤ k_) ∧ some k_ ≠ (.slice (some ad275) l0.length co6 : Value).ownBlock ∧ some k_ ≠ (v289 : Value).ownBlock) (fun _ => False) rfl rfl ?aO ?aR (fun _ _ h => h) (fun _ h => h.elim) ?aF ?aB ?aS ?aL ?_; (case aR => exact (kV_ HO284))
        (case aB => exact fL)
        (case aF => exact u96_)
        (case aO => exact u55_)
        (case aS => exact fJ)
        (case aL => have := LMc11.out; omega)
        intro v286 w24 ho hb hg hat; rw [← Ny285.out] at ho; replace HO_0 := am_ (Kd.R_after (ok := (fun k_ => (P0_ k_ ∨ w.heap.size ≤ k_) ∧ some k_ ≠ (v289 : Value).ownBlock)) (aR_ HO_0.out) hg hat); replace HO284 := am_ (Kd.V_afterv (ok := (fun k_ => (P0_ k_ ∨ w.heap.size ≤ k_) ∧ some k_ ≠ (v289 : Value).ownBlock)) (aV_ HO284.out) hg hat); replace HO298 := am_ (Kd.V_afterv (ok := (fun k_ => (P0_ k_ ∨ w.heap.size ≤ k_) ∧ some k_ ≠ (v289 : Value).ownBlock)) (aV_ HO298.out) hg hat); replace HO290 := am_ (Kd.R_after (ok := (fun k_ => (P0_ k_ ∨ w.heap.size ≤ k_) ∧ some k_ ≠ (.slice (some ad275) l0.length co6 : Value).ownBlock)) u56_ hg hat); replace HB := am_ (hb); replace HK := am_ (Kept.of_grown (S := (fun k_ => P0_ k_)) hg u2_ (fun k_ e_ => (HO279.out.1 k_ e_).1.1.1)); have HO287 := am_ (ho); clear HO279 ho hb hg hat; refine hK.out _ _ trivial (fun hHeld => ?_); clear hK K; refine nm_ ?_; exact gj mZ (hCont (v278, v286, v289) _ ⟨u59_, u34_, u60_, u61_, u22_, u2_, (bw_ HB)⟩)
      rintro ⟨v278, v286, v289⟩ w25 ⟨h0_, h1_, h2_, h3_, h4_, h5_, h6_⟩; have n0_ : aa (Kd.V Kd.string 9 w25 w0.heap.size (fun k_ => (P0_ k_ ∨ w.heap.size ≤ k_) ∧ some k_ ≠ (v286 : Value).ownBlock ∧ some k_ ≠ (v289 : Value).ownBlock) (.slice (some ad275) y280.length co6) y280) := ⟨h0_⟩; have n1_ : aa (Kd.R Kd.string 9 w25 w0.heap.size (fun k_ => (P0_ k_ ∨ w.heap.size ≤ k_) ∧ some k_ ≠ (v289 : Value).ownBlock ∧ some k_ ≠ (.slice (some ad275) l0.length co6 : Value).ownBlock) v286 y285) := ⟨h1_⟩; have n2_ : aa (Kd.R Kd.string 9 w25 w0.heap.size (fun k_ => (P0_ k_ ∨ w.heap.size ≤ k_) ∧ some k_ ≠ (v286 : Value).ownBlock ∧ some k_ ≠ (.slice (some ad275) l0.length co6 : Value).ownBlock) v289 y288) := ⟨h2_⟩; have n3_ : aa (Kd.V Kd.string 9 w25 w0.heap.size (fun k_ => (P0_ k_ ∨ w.heap.size ≤ k_) ∧ some k_ ≠ (v286 : Value).ownBlock ∧ some k_ ≠ (v289 : Value).ownBlock) (.slice A19 y294.length c19) y294) := ⟨h3_⟩; have n4_ : aa (Kd.R Kd.string 9 w25 w0.heap.size (fun k_ => (P0_ k_ ∨ w.heap.size ≤ k_) ∧ some k_ ≠ (v286 : Value).ownBlock ∧ some k_ ≠ (v289 : Value).ownBlock) (.slice (some ad275) l0.length co6) l0) := ⟨h4_⟩; have n5_ : aa (Kept w w25 (fun k_ => P0_ k_)) := ⟨h5_⟩; have n6_ : aa (Below w0.heap.size w0 w25) := ⟨h6_⟩; clear HO_0 HK HB h0_ h1_ h2_ h3_ h4_ h5_ h6_; have HO287 := n1_; have HO290 := n2_; have HO298 := n3_; have HO_0 := n4_; have HK := n5_; have HB := n6_; clear n0_ n1_ n2_ n3_ n4_ n5_ n6_; have hHeld := trivial; obtain ⟨Ao27, co27, eo27⟩ := Kd.R_slice HO290.out; (first | subst eo27 | (injection eo27 with f1_ f2_ f3_; have f4_ := f1_.symm; have f5_ := f3_.symm; clear f1_ f2_ f3_; subst f4_; subst f5_))
      refine gj (a' := ?_) ?_ ?_; rotate_left
      ·simp only [ig, Act.put, List.setIfInBounds_toArray, List.set_cons_zero, List.set_cons_succ]; rfl
      refine ov_ 7 40 (fun K hK => ?_); refine Kd.R_append_rows_step Kd.string (w0 := w0) w0.heap.size cO (.tmp 37) (.tmp 39) 30 9 (.string ⟨#[]⟩) 16 rfl Tryz.underlying30 eX rfl aC u7_ v286 y285 y288 _ _ _ (fun k_ => (P0_ k_ ∨ w.heap.size ≤ k_) ∧ some k_ ≠ (.slice (some ad275) l0.length co6 : Value).ownBlock ∧ some k_ ≠ (.slice Ao27 y288.length co27 : Value).ownBlock) (fun _ => False) rfl rfl ?aO ?aR (fun _ _ h => h) (fun _ h => h.elim) ?aF ?aB ?aS ?aL ?_; (case aR => exact (kR_ HO290))
      (case aB => exact fL)
      (case aF => exact u96_)
      (case aO => exact u34_)
      (case aS => exact fJ)
      (case aL => have := LMc12.out; omega)
      intro v292 w26 ho hb hg hat; rw [← Ny291.out] at ho; replace HO_0 := am_ (Kd.R_after (ok := (fun k_ => (P0_ k_ ∨ w.heap.size ≤ k_) ∧ some k_ ≠ (.slice Ao27 y288.length co27 : Value).ownBlock)) u67_ hg hat); replace HO298 := am_ (Kd.V_afterv (ok := (fun k_ => (P0_ k_ ∨ w.heap.size ≤ k_) ∧ some k_ ≠ (.slice Ao27 y288.length co27 : Value).ownBlock)) (by (with_reducible repeat (first | apply Kd.V_alloc | apply Kd.V_drewN | apply Kd.V_drew)); exact Kd.V_mono HO298.out (fun _ hk => ⟨⟨hk.1, hk.2.2⟩, hk.2.1⟩)) hg hat); replace HO290 := am_ (Kd.R_after (ok := (fun k_ => (P0_ k_ ∨ w.heap.size ≤ k_) ∧ some k_ ≠ (.slice (some ad275) l0.length co6 : Value).ownBlock)) (by (with_reducible repeat (first | apply Kd.R_alloc | apply Kd.R_drewN | apply Kd.R_drew)); exact Kd.R_mono HO290.out (fun _ hk => ⟨⟨hk.1, hk.2.2⟩, hk.2.1⟩)) hg hat); replace HB := am_ (hb); replace HK := am_ (Kept.of_grown (S := (fun k_ => P0_ k_)) hg u2_ (fun k_ e_ => (HO287.out.1 k_ e_).1)); have HO293 := am_ (ho); clear HO287 ho hb hg hat; refine hK.out _ _ trivial (fun hHeld => ?_); clear hK K; refine nm_ ?_; refine ov_ 11 44 (fun K hK => ?_); refine Kd.R_append_rows_step Kd.string (w0 := w0) w0.heap.size cO (.tmp 40) (.tmp 43) 30 9 (.string ⟨#[]⟩) 16 rfl Tryz.underlying30 eX rfl aC u7_ v292 y291 y294 _ _ _ (fun k_ => (P0_ k_ ∨ w.heap.size ≤ k_) ∧ some k_ ≠ (.slice (some ad275) l0.length co6 : Value).ownBlock ∧ some k_ ≠ (.slice Ao27 y288.length co27 : Value).ownBlock) (fun _ => False) rfl rfl ?aO ?aR (fun _ _ h => h) (fun _ h => h.elim) ?aF ?aB ?aS ?aL ?_; (case aR => exact (kV_ HO298))
      (case aB => exact fL)
      (case aF => exact u96_)
      (case aO => exact (aR_ HO293.out))
      (case aS => exact fJ)
      (case aL => have := LMc15.out; omega)
      intro v300 w28 ho hb hg hat; rw [← Ny299.out] at ho; replace HB := am_ (hb); replace HK := am_ (Kept.of_grown (S := (fun k_ => P0_ k_)) hg u2_ (fun k_ e_ => (HO293.out.1 k_ e_).1)); have HO301 := am_ (ho); clear HO293 ho hb hg hat; refine hK.out _ _ trivial (fun hHeld => ?_); clear hK K; refine nm_ ?_; refine pv_ 12 4 ?_; refine dn_ HT_ ?_; try go_wp2
      go_ret
      exact ⟨_, u0_, by (with_reducible repeat (first | apply Kd.R_alloc | apply Kd.R_drewN | apply Kd.R_drew)); exact Kd.R_mono HO301.out (fun _ hk => hk.1), bw_ HB, u2_⟩
   ·rw [if_neg c3] at H; have c3b0 := decide_eq_false c3; clear c3; obtain ⟨y302, hy302⟩ : ∃ y_ : List ByteArray, y_ = (([] : List ByteArray)) := ⟨_, rfl⟩; replace H : (if 0 ≤ x5_1 then (if x5_1 ≤ (l0.length : Int) then ((some (l0.take (x5_1 : Int).toNat : List ByteArray)).bind fun y305 => (if y302.length + y305.length < 8796093022208 then ((some (y302 ++ y305 : List ByteArray)).bind fun y310 => ((some (([a1] : List ByteArray) : List ByteArray)).bind fun y313 => (if y310.length + y313.length < 8796093022208 then ((some (y310 ++ y313 : List ByteArray)).bind fun y316 => ((some (l0.drop (x5_1 : Int).toNat : List ByteArray)).bind fun y319 => (if y316.length + y319.length < 8796093022208 then (some (y316 ++ y319)) else (none)))) else (none)))) else (none))) else (none)) else (none)) = some r := by first | (rw [hy302]; with_reducible exact H) | (have H2_ := (Option.bind_some _ _).symm.trans H; rw [hy302]; with_reducible exact H2_) | (have H2_ := (Option.bind_some _ _).symm.trans H; with_reducible exact H2_) | with_reducible exact H | (rw [hy302]; exact H) | exact H
    have Ny302 := am_ hy302; clear hy302; by_cases c29 : 0 ≤ x5_1
    ·rw [if_pos c29] at H; have c29b0 := eq_true c29; have c29b1 := decide_eq_true c29; clear c29; obtain ⟨c30b0, c30b1, H⟩ := ge_ H; generalize hy305 : ((l0.take (x5_1 : Int).toNat) : List ByteArray) = y305 at H; have Ny305 := am_ hy305.symm; clear hy305; obtain ⟨LMc31, H⟩ := gl_ H; generalize hy310 : ((y302 ++ y305) : List ByteArray) = y310 at H; have Ny310 := am_ hy310.symm; clear hy310; generalize hy313 : ((([a1] : List ByteArray)) : List ByteArray) = y313 at H; have Ny313 := am_ hy313.symm; clear hy313; obtain ⟨LMc32, H⟩ := gl_ H; generalize hy316 : ((y310 ++ y313) : List ByteArray) = y316 at H; have Ny316 := am_ hy316.symm; clear hy316; have c33b0 := eq_true (od_ : 0 ≤ x5_1); have c34b0 := eq_true (od_ : x5_1 ≤ (l0.length : Int)); generalize hy319 : ((l0.drop (x5_1 : Int).toNat) : List ByteArray) = y319 at H; have Ny319 := am_ hy319.symm; clear hy319; obtain ⟨LMc35, H⟩ := gl_ H; generalize hy324 : ((y316 ++ y319) : List ByteArray) = y324 at H; have Ny324 := am_ hy324.symm; clear hy324; obtain rfl := si_ H; obtain ⟨Ao36, co36, eo36⟩ := Kd.R_slice HO_0.out; subst eo36; try go_wp2
     replace HO_0 := am_ (Kd.R_drew HO_0.out); replace HK := am_ (Kept.drew HK.out); replace HB := am_ (aN HB.out); have q38 : (x5_1 : Int) ≤ ((l0.length : Int) : Int) := od_; obtain ⟨i038, hi038, _, hsz38, _⟩ := info_parts eX; have hroom38 : l0.length ≤ co36 := (Kd.R_reads' HO_0.out).2.1; have hC38 : Kd.F Kd.string _ _ Ao36 l0.length l0 := (Kd.V_at (base := w0.heap.size) (Kd.R_V HO_0.out)).2.2; have hcut38 := n4 (P := Tryz.prog) 30 9 .i64 Tryz.underlying30 hi038 Ao36 l0.length co36 x5_1 (od_) q38 hroom38; have hr38 := Kd.F_take (m := (x5_1 : Int).toNat) hC38 u7_; have hy38 : y305.length = (x5_1 : Int).toNat := (by rw [Ny305.out, List.length_take]; omega); rw [← Ny305.out] at hr38; rw [← hy38] at hcut38; have HO309 := am_ (show Kd.V Kd.string 9 _ w0.heap.size _ (.slice Ao36 y305.length co36) y305 from Kd.V_mk u7_ hr38); have HC309 := am_ (show y305.length ≤ co36 from u7_); clear hr38 hC38 hroom38 hi038 hsz38; have KY38 := am_ hy38; clear hy38; replace q38 := eq_true q38; have q39 : (x5_1 : Int) ≤ ((l0.length : Int) : Int) := od_; obtain ⟨i039, hi039, _, hsz39, _⟩ := info_parts eX; have hroom39 : l0.length ≤ co36 := (Kd.R_reads' HO_0.out).2.1; have hC39 : Kd.F Kd.string _ _ Ao36 l0.length l0 := (Kd.V_at (base := w0.heap.size) (Kd.R_V HO_0.out)).2.2; have q039 : (0 : Int) ≤ (x5_1 : Int) := od_; have hcut39 := kB (P := Tryz.prog) 30 9 .i64 Tryz.underlying30 hi039 1 hsz39 Ao36 l0.length co36 x5_1 q039 q39; have hr39 := Kd.F_cut (m := (x5_1 : Int).toNat) (c := co36) hC39 u7_ hroom39; obtain ⟨A39, hA39⟩ : ∃ A1, A1 = (if co36 = (x5_1 : Int).toNat then Ao36 else (Ao36 : Option Addr).map (·.add ((x5_1 : Int).toNat * 1))) := ⟨_, rfl⟩; obtain ⟨c39, hc39⟩ : ∃ c1, c1 = co36 - (x5_1 : Int).toNat := ⟨_, rfl⟩; have hy39 : y319.length = l0.length - (x5_1 : Int).toNat := (by rw [Ny319.out, List.length_drop] <;> omega); rw [show (l0).drop (x5_1 : Int).toNat = y319 from Ny319.out.symm] at hr39; replace hr39 : Kd.F Kd.string _ _ A39 y319.length y319 := (by rw [hA39]; exact hr39); rw [← hy39, ← hA39, ← hc39] at hcut39; have HO323 := am_ (show Kd.V Kd.string 9 _ w0.heap.size _ (.slice A39 y319.length c39) y319 from Kd.V_mk (by rw [hy39, hc39]; exact Nat.sub_le_sub_right hroom39 _) hr39); have HC323 := am_ (show y319.length ≤ c39 from by rw [hy39, hc39]; exact Nat.sub_le_sub_right hroom39 _); clear hr39 hC39 hroom39 hi039 hsz39 hc39; have KY39 := am_ hy39; have KA39 := am_ hA39; clear hy39 hA39; replace q39 := eq_true q39; refine dd (n := 13) (S := fun w' => True) (ds := []) (bm_ 13 0) bY rfl rfl trivial (fun hHeld => ?_); refine bH bq.tab6 bq.bits6 (fun HT_ HW_ => ?_); generalize wr.drew = w37 at HO_0 HK HB HO309 HO323 hHeld ⊢; refine pv_ 1 34 ?_; refine pv_ 2 35 ?_; refine pv_ 3 36 ?_; refine pv_ 5 38 ?_; refine pv_ 8 41 ?_; refine pv_ 9 42 ?_; refine pv_ 10 43 ?_; refine rA (σ := Value × Value × Value) 3 (bm_ 13 1919) (fun s_ => [(33, s_.1), (37, s_.2.1), (39, s_.2.2)]) (fun s_ w' => (Kd.V Kd.string 9 w' w0.heap.size (fun k_ => (P0_ k_ ∨ w.heap.size ≤ k_) ∧ some k_ ≠ (s_.2.1 : Value).ownBlock ∧ some k_ ≠ (s_.2.2 : Value).ownBlock) (.slice Ao36 y305.length co36) y305) ∧ (Kd.R Kd.string 9 w' w0.heap.size (fun k_ => (P0_ k_ ∨ w.heap.size ≤ k_) ∧ some k_ ≠ (s_.2.2 : Value).ownBlock ∧ some k_ ≠ (.slice Ao36 l0.length co36 : Value).ownBlock) s_.2.1 y310) ∧ (Kd.R Kd.string 9 w' w0.heap.size (fun k_ => (P0_ k_ ∨ w.heap.size ≤ k_) ∧ some k_ ≠ (s_.2.1 : Value).ownBlock ∧ some k_ ≠ (.slice Ao36 l0.length co36 : Value).ownBlock) s_.2.2 y313) ∧ (Kd.V Kd.string 9 w' w0.heap.size (fun k_ => (P0_ k_ ∨ w.heap.size ≤ k_) ∧ some k_ ≠ (s_.2.1 : Value).ownBlock ∧ some k_ ≠ (s_.2.2 : Value).ownBlock) (.slice A39 y319.length c39) y319) ∧ (Kd.R Kd.string 9 w' w0.heap.size (fun k_ => (P0_ k_ ∨ w.heap.size ≤ k_) ∧ some k_ ≠ (s_.2.1 : Value).ownBlock ∧ some k_ ≠ (s_.2.2 : Value).ownBlock) (.slice Ao36 l0.length co36) l0) ∧ (Kept w w' (fun k_ => P0_ k_)) ∧ (Below w0.heap.size w0 w')) ?_ ?_; rotate_left
     ·intro hCont; refine two_ (i := 0) (j := 6) (Ni := some 33) (Nj := some 39) (bm_ 13 1839) (bm_ 13 1902) rfl rfl rfl rfl (iV HT_.out bY) aC aC (fun K hK => ?_) (fun K hK => ?_)
      ·skip
       refine Kd.R_lit_step Kd.string _ 9 ?hg (N := 33) ?hd (xs := ([] : List ByteArray)) (inner := []) (ok := fun _ => True) (okp := fun _ => True) ?hr ?hp (fun _ hk => hk) trivial (Below.refl _ _) (Nat.le_refl _) cM ?_; (case hd => rfl); (case hg => rfl); (case hr => exact u6_); (case hp => exact ii); intro v303 w40 ho41 hb hg_ hnew_; clear hg_ hnew_; (first | rw [← Ny302.out] at ho41 | (simp only [Int.reduceToNat] at ho41; rw [← Ny302.out] at ho41))
       replace HO309 := am_ (Kd.V_elder' (aV_ HO309.out) (Kd.R_base ho41) hb); replace HO323 := am_ (Kd.V_elder' (aV_ HO323.out) (Kd.R_base ho41) hb); have HO304 := am_ (Kd.R_lower (Kd.R_new' (Kd.R_newM (M := fun k_ => (P0_ k_ ∨ w.heap.size ≤ k_)) ho41 iB (fun k_ h_ => .inr h_)) (Kd.R_lt (aR_ HO_0.out))) (al (bw_ HB))); replace HO_0 := am_ (Kd.R_elder' (aR_ HO_0.out) (Kd.R_base ho41) hb); replace HK := am_ (Kept.below (S := (fun k_ => P0_ k_)) u2_ hb); replace HB := bs_ HB hb; clear hb ho41; refine hK.out _ _ trivial (fun hHeld => ?_); clear hK K; refine nm_ ?_; refine two_ (i := 4) (j := 6) (Ni := some 37) (Nj := some 39) (bm_ 13 1855) (bm_ 13 1903) rfl rfl rfl rfl (iV HT_.out bY) aC aC (fun K hK => ?_) (fun K hK => ?_)
       ·skip
        refine Kd.R_append_rows_step Kd.string (w0 := w0) w0.heap.size cO (.tmp 33) (.tmp 36) 30 9 (.string ⟨#[]⟩) 16 rfl Tryz.underlying30 eX rfl aC u7_ v303 y302 y305 _ _ _ (fun k_ => (P0_ k_ ∨ w.heap.size ≤ k_) ∧ some k_ ≠ (.slice Ao36 l0.length co36 : Value).ownBlock) (fun _ => False) rfl rfl ?aO ?aR (fun _ _ h => h) (fun _ h => h.elim) ?aF ?aB ?aS ?aL ?_; (case aR => exact (kV_ HO309))
        (case aB => exact fL)
        (case aF => exact (fun k_ hk => ⟨(.inr (Nat.le_trans iB hk)), Kd.fresh' (Kd.R_lt (aR_ HO_0.out)) k_ hk⟩))
        (case aO => exact (by (with_reducible repeat (first | apply Kd.R_alloc | apply Kd.R_drewN | apply Kd.R_drew)); exact Kd.R_mono HO304.out (fun _ hk => ⟨hk.1.1, hk.2⟩)))
        (case aS => exact fJ)
        (case aL => have := LMc31.out; omega)
        intro v311 w42 ho hb hg hat; rw [← Ny310.out] at ho; replace HO_0 := am_ (Kd.R_after (ok := (fun k_ => (P0_ k_ ∨ w.heap.size ≤ k_))) (aR_ HO_0.out) hg hat); replace HO309 := am_ (Kd.V_afterv (ok := (fun k_ => (P0_ k_ ∨ w.heap.size ≤ k_))) (aV_ HO309.out) hg hat); replace HO323 := am_ (Kd.V_afterv (ok := (fun k_ => (P0_ k_ ∨ w.heap.size ≤ k_))) (aV_ HO323.out) hg hat); replace HB := am_ (hb); replace HK := am_ (Kept.of_grown (S := (fun k_ => P0_ k_)) hg u2_ (fun k_ e_ => (HO304.out.1 k_ e_).1.1)); have HO312 := am_ (ho); clear HO304 ho hb hg hat; refine hK.out _ _ trivial (fun hHeld => ?_); clear hK K; refine nm_ ?_; refine ov_ 6 39 (fun K hK => ?_); refine Kd.R_lit_step Kd.string _ 9 ?hg (N := 39) ?hd (xs := ([a1] : List ByteArray)) (inner := [.string a1]) (ok := fun _ => True) (okp := fun _ => True) ?hr ?hp (fun _ hk => hk) trivial (Below.refl _ _) (Nat.le_refl _) cM ?_; (case hd => rfl); (case hg => rfl); (case hr => exact u6_); (case hp => exact u30_); intro v314 w43 ho44 hb hg_ hnew_; clear hg_ hnew_; (first | rw [← Ny313.out] at ho44 | (simp only [Int.reduceToNat] at ho44; rw [← Ny313.out] at ho44))
        replace HO309 := am_ (Kd.V_elder' (aV_ HO309.out) (Kd.R_base ho44) hb); replace HO323 := am_ (Kd.V_elder' (aV_ HO323.out) (Kd.R_base ho44) hb); have HO315 := am_ (Kd.R_lower (Kd.R_new' (Kd.R_new' (Kd.R_newM (M := fun k_ => (P0_ k_ ∨ w.heap.size ≤ k_)) ho44 iB (fun k_ h_ => .inr h_)) (Kd.R_lt (aR_ HO_0.out))) (Kd.R_lt (aR_ HO312.out))) (al (bw_ HB))); replace HO_0 := am_ (Kd.R_elder' (aR_ HO_0.out) (Kd.R_base ho44) hb); replace HO312 := am_ (Kd.R_elder' (aR_ HO312.out) (Kd.R_base ho44) hb); replace HK := am_ (Kept.below (S := (fun k_ => P0_ k_)) u2_ hb); replace HB := bs_ HB hb; clear hb ho44; refine hK.out _ _ trivial (fun hHeld => ?_); clear hK K; refine nm_ ?_; exact gj mZ (hCont (v303, v311, v314) _ ⟨(by (with_reducible repeat (first | apply Kd.V_alloc | apply Kd.V_drewN | apply Kd.V_drew)); exact Kd.V_mono HO309.out (fun _ hk => ⟨hk.1.1, ⟨hk.1.2, hk.2⟩⟩)), (by (with_reducible repeat (first | apply Kd.R_alloc | apply Kd.R_drewN | apply Kd.R_drew)); exact Kd.R_mono HO312.out (fun _ hk => ⟨hk.1.1, ⟨hk.2, hk.1.2⟩⟩)), (by (with_reducible repeat (first | apply Kd.R_alloc | apply Kd.R_drewN | apply Kd.R_drew)); exact Kd.R_mono HO315.out (fun _ hk => ⟨hk.1.1.1, ⟨hk.2, hk.1.2⟩⟩)), (by (with_reducible repeat (first | apply Kd.V_alloc | apply Kd.V_drewN | apply Kd.V_drew)); exact Kd.V_mono HO323.out (fun _ hk => ⟨hk.1.1, ⟨hk.1.2, hk.2⟩⟩)), u65_, u2_, (bw_ HB)⟩)
       ·skip
        refine Kd.R_lit_step Kd.string _ 9 ?hg (N := 39) ?hd (xs := ([a1] : List ByteArray)) (inner := [.string a1]) (ok := fun _ => True) (okp := fun _ => True) ?hr ?hp (fun _ hk => hk) trivial (Below.refl _ _) (Nat.le_refl _) cM ?_; (case hd => rfl); (case hg => rfl); (case hr => exact u6_); (case hp => exact u30_); intro v314 w42 ho43 hb hg_ hnew_; clear hg_ hnew_; (first | rw [← Ny313.out] at ho43 | (simp only [Int.reduceToNat] at ho43; rw [← Ny313.out] at ho43))
        replace HO309 := am_ (Kd.V_elder' (aV_ HO309.out) (Kd.R_base ho43) hb); replace HO323 := am_ (Kd.V_elder' (aV_ HO323.out) (Kd.R_base ho43) hb); have HO315 := am_ (Kd.R_lower (Kd.R_new' (Kd.R_new' (Kd.R_newM (M := fun k_ => (P0_ k_ ∨ w.heap.size ≤ k_)) ho43 iB (fun k_ h_ => .inr h_)) (Kd.R_lt (aR_ HO_0.out))) (Kd.R_lt (aR_ HO304.out))) (al (bw_ HB))); replace HO_0 := am_ (Kd.R_elder' (aR_ HO_0.out) (Kd.R_base ho43) hb); replace HO304 := am_ (Kd.R_elder' (aR_ HO304.out) (Kd.R_base ho43) hb); replace HK := am_ (Kept.below (S := (fun k_ => P0_ k_)) u2_ hb); replace HB := bs_ HB hb; clear hb ho43; refine hK.out _ _ trivial (fun hHeld => ?_); clear hK K; refine nm_ ?_; refine ov_ 4 37 (fun K hK => ?_); refine Kd.R_append_rows_step Kd.string (w0 := w0) w0.heap.size cO (.tmp 33) (.tmp 36) 30 9 (.string ⟨#[]⟩) 16 rfl Tryz.underlying30 eX rfl aC u7_ v303 y302 y305 _ _ _ (fun k_ => (P0_ k_ ∨ w.heap.size ≤ k_) ∧ some k_ ≠ (.slice Ao36 l0.length co36 : Value).ownBlock ∧ some k_ ≠ (v314 : Value).ownBlock) (fun _ => False) rfl rfl ?aO ?aR (fun _ _ h => h) (fun _ h => h.elim) ?aF ?aB ?aS ?aL ?_; (case aR => exact (kV_ HO309))
        (case aB => exact fL)
        (case aF => exact u97_)
        (case aO => exact u57_)
        (case aS => exact fJ)
        (case aL => have := LMc31.out; omega)
        intro v311 w44 ho hb hg hat; rw [← Ny310.out] at ho; replace HO_0 := am_ (Kd.R_after (ok := (fun k_ => (P0_ k_ ∨ w.heap.size ≤ k_) ∧ some k_ ≠ (v314 : Value).ownBlock)) u66_ hg hat); replace HO309 := am_ (Kd.V_afterv (ok := (fun k_ => (P0_ k_ ∨ w.heap.size ≤ k_) ∧ some k_ ≠ (v314 : Value).ownBlock)) (by (with_reducible repeat (first | apply Kd.V_alloc | apply Kd.V_drewN | apply Kd.V_drew)); exact Kd.V_mono HO309.out (fun _ hk => ⟨⟨hk.1.1, hk.2⟩, hk.1.2⟩)) hg hat); replace HO323 := am_ (Kd.V_afterv (ok := (fun k_ => (P0_ k_ ∨ w.heap.size ≤ k_) ∧ some k_ ≠ (v314 : Value).ownBlock)) (by (with_reducible repeat (first | apply Kd.V_alloc | apply Kd.V_drewN | apply Kd.V_drew)); exact Kd.V_mono HO323.out (fun _ hk => ⟨⟨hk.1.1, hk.2⟩, hk.1.2⟩)) hg hat); replace HO315 := am_ (Kd.R_after (ok := (fun k_ => (P0_ k_ ∨ w.heap.size ≤ k_) ∧ some k_ ≠ (.slice Ao36 l0.length co36 : Value).ownBlock)) u58_ hg hat); replace HB := am_ (hb); replace HK := am_ (Kept.of_grown (S := (fun k_ => P0_ k_)) hg u2_ (fun k_ e_ => (HO304.out.1 k_ e_).1.1.1)); have HO312 := am_ (ho); clear HO304 ho hb hg hat; refine hK.out _ _ trivial (fun hHeld => ?_); clear hK K; refine nm_ ?_; exact gj mZ (hCont (v303, v311, v314) _ ⟨u62_, u35_, u63_, u64_, u22_, u2_, (bw_ HB)⟩)
      ·skip
       refine Kd.R_lit_step Kd.string _ 9 ?hg (N := 39) ?hd (xs := ([a1] : List ByteArray)) (inner := [.string a1]) (ok := fun _ => True) (okp := fun _ => True) ?hr ?hp (fun _ hk => hk) trivial (Below.refl _ _) (Nat.le_refl _) cM ?_; (case hd => rfl); (case hg => rfl); (case hr => exact u6_); (case hp => exact u30_); intro v314 w40 ho41 hb hg_ hnew_; clear hg_ hnew_; (first | rw [← Ny313.out] at ho41 | (simp only [Int.reduceToNat] at ho41; rw [← Ny313.out] at ho41))
       replace HO309 := am_ (Kd.V_elder' (aV_ HO309.out) (Kd.R_base ho41) hb); replace HO323 := am_ (Kd.V_elder' (aV_ HO323.out) (Kd.R_base ho41) hb); have HO315 := am_ (Kd.R_lower (Kd.R_new' (Kd.R_newM (M := fun k_ => (P0_ k_ ∨ w.heap.size ≤ k_)) ho41 iB (fun k_ h_ => .inr h_)) (Kd.R_lt (aR_ HO_0.out))) (al (bw_ HB))); replace HO_0 := am_ (Kd.R_elder' (aR_ HO_0.out) (Kd.R_base ho41) hb); replace HK := am_ (Kept.below (S := (fun k_ => P0_ k_)) u2_ hb); replace HB := bs_ HB hb; clear hb ho41; refine hK.out _ _ trivial (fun hHeld => ?_); clear hK K; refine nm_ ?_; refine ov_ 0 33 (fun K hK => ?_); refine Kd.R_lit_step Kd.string _ 9 ?hg (N := 33) ?hd (xs := ([] : List ByteArray)) (inner := []) (ok := fun _ => True) (okp := fun _ => True) ?hr ?hp (fun _ hk => hk) trivial (Below.refl _ _) (Nat.le_refl _) cM ?_; (case hd => rfl); (case hg => rfl); (case hr => exact u6_); (case hp => exact ii); intro v303 w42 ho43 hb hg_ hnew_; clear hg_ hnew_; (first | rw [← Ny302.out] at ho43 | (simp only [Int.reduceToNat] at ho43; rw [← Ny302.out] at ho43))
       replace HO309 := am_ (Kd.V_elder' (aV_ HO309.out) (Kd.R_base ho43) hb); replace HO323 := am_ (Kd.V_elder' (aV_ HO323.out) (Kd.R_base ho43) hb); have HO304 := am_ (Kd.R_lower (Kd.R_new' (Kd.R_new' (Kd.R_newM (M := fun k_ => (P0_ k_ ∨ w.heap.size ≤ k_)) ho43 iB (fun k_ h_ => .inr h_)) (Kd.R_lt (aR_ HO_0.out))) (Kd.R_lt (aR_ HO315.out))) (al (bw_ HB))); replace HO_0 := am_ (Kd.R_elder' (aR_ HO_0.out) (Kd.R_base ho43) hb); replace HO315 := am_ (Kd.R_elder' (aR_ HO315.out) (Kd.R_base ho43) hb); replace HK := am_ (Kept.below (S := (fun k_ => P0_ k_)) u2_ hb); replace HB := bs_ HB hb; clear hb ho43; refine hK.out _ _ trivial (fun hHeld => ?_); clear hK K; refine nm_ ?_; refine ov_ 4 37 (fun K hK => ?_); refine Kd.R_append_rows_step Kd.string (w0 := w0) w0.heap.size cO (.tmp 33) (.tmp 36) 30 9 (.string ⟨#[]⟩) 16 rfl Tryz.underlying30 eX rfl aC u7_ v303 y302 y305 _ _ _ (fun k_ => (P0_ k_ ∨ w.heap.size ≤ k_) ∧ some k_ ≠ (.slice Ao36 l0.length co36 : Value).ownBlock ∧ some k_ ≠ (v314 : Value).ownBlock) (fun _ => False) rfl rfl ?aO ?aR (fun _ _ h => h) (fun _ h => h.elim) ?aF ?aB ?aS ?aL ?_; (case aR => exact (kV_ HO309))
       (case aB => exact fL)
       (case aF => exact u97_)
       (case aO => exact u57_)
       (case aS => exact fJ)
       (case aL => have := LMc31.out; omega)
       intro v311 w44 ho hb hg hat; rw [← Ny310.out] at ho; replace HO_0 := am_ (Kd.R_after (ok := (fun k_ => (P0_ k_ ∨ w.heap.size ≤ k_) ∧ some k_ ≠ (v314 : Value).ownBlock)) (aR_ HO_0.out) hg hat); replace HO309 := am_ (Kd.V_afterv (ok := (fun k_ => (P0_ k_ ∨ w.heap.size ≤ k_) ∧ some k_ ≠ (v314 : Value).ownBlock)) (aV_ HO309.out) hg hat); replace HO323 := am_ (Kd.V_afterv (ok := (fun k_ => (P0_ k_ ∨ w.heap.size ≤ k_) ∧ some k_ ≠ (v314 : Value).ownBlock)) (aV_ HO323.out) hg hat); replace HO315 := am_ (Kd.R_after (ok := (fun k_ => (P0_ k_ ∨ w.heap.size ≤ k_) ∧ some k_ ≠ (.slice Ao36 l0.length co36 : Value).ownBlock)) u58_ hg hat); replace HB := am_ (hb); replace HK := am_ (Kept.of_grown (S := (fun k_ => P0_ k_)) hg u2_ (fun k_ e_ => (HO304.out.1 k_ e_).1.1.1)); have HO312 := am_ (ho); clear HO304 ho hb hg hat; refine hK.out _ _ trivial (fun hHeld => ?_); clear hK K; refine nm_ ?_; exact gj mZ (hCont (v303, v311, v314) _ ⟨u62_, u35_, u63_, u64_, u22_, u2_, (bw_ HB)⟩)
     rintro ⟨v303, v311, v314⟩ w45 ⟨h0_, h1_, h2_, h3_, h4_, h5_, h6_⟩; have n0_ : aa (Kd.V Kd.string 9 w45 w0.heap.size (fun k_ => (P0_ k_ ∨ w.heap.size ≤ k_) ∧ some k_ ≠ (v311 : Value).ownBlock ∧ some k_ ≠ (v314 : Value).ownBlock) (.slice Ao36 y305.length co36) y305) := ⟨h0_⟩; have n1_ : aa (Kd.R Kd.string 9 w45 w0.heap.size (fun k_ => (P0_ k_ ∨ w.heap.size ≤ k_) ∧ some k_ ≠ (v314 : Value).ownBlock ∧ some k_ ≠ (.slice Ao36 l0.length co36 : Value).ownBlock) v311 y310) := ⟨h1_⟩; have n2_ : aa (Kd.R Kd.string 9 w45 w0.heap.size (fun k_ => (P0_ k_ ∨ w.heap.size ≤ k_) ∧ some k_ ≠ (v311 : Value).ownBlock ∧ some k_ ≠ (.slice Ao36 l0.length co36 : Value).ownBlock) v314 y313) := ⟨h2_⟩; have n3_ : aa (Kd.V Kd.string 9 w45 w0.heap.size (fun k_ => (P0_ k_ ∨ w.heap.size ≤ k_) ∧ some k_ ≠ (v311 : Value).ownBlock ∧ some k_ ≠ (v314 : Value).ownBlock) (.slice A39 y319.length c39) y319) := ⟨h3_⟩; have n4_ : aa (Kd.R Kd.string 9 w45 w0.heap.size (fun k_ => (P0_ k_ ∨ w.heap.size ≤ k_) ∧ some k_ ≠ (v311 : Value).ownBlock ∧ some k_ ≠ (v314 : Value).ownBlock) (.slice Ao36 l0.length co36) l0) := ⟨h4_⟩; have n5_ : aa (Kept w w45 (fun k_ => P0_ k_)) := ⟨h5_⟩; have n6_ : aa (Below w0.heap.size w0 w45) := ⟨h6_⟩; clear HO_0 HK HB h0_ h1_ h2_ h3_ h4_ h5_ h6_; have HO312 := n1_; have HO315 := n2_; have HO323 := n3_; have HO_0 := n4_; have HK := n5_; have HB := n6_; clear n0_ n1_ n2_ n3_ n4_ n5_ n6_; have hHeld := trivial; obtain ⟨Ao47, co47, eo47⟩ := Kd.R_slice HO315.out; (first | subst eo47 | (injection eo47 with f1_ f2_ f3_; have f4_ := f1_.symm; have f5_ := f3_.symm; clear f1_ f2_ f3_; subst f4_; subst f5_))
     refine gj (a' := ?_) ?_ ?_; rotate_left
     ·simp only [ig, Act.put, List.setIfInBounds_toArray, List.set_cons_zero, List.set_cons_succ]; rfl
     refine ov_ 7 40 (fun K hK => ?_); refine Kd.R_append_rows_step Kd.string (w0 := w0) w0.heap.size cO (.tmp 37) (.tmp 39) 30 9 (.string ⟨#[]⟩) 16 rfl Tryz.underlying30 eX rfl aC u7_ v311 y310 y313 _ _ _ (fun k_ => (P0_ k_ ∨ w.heap.size ≤ k_) ∧ some k_ ≠ (.slice Ao36 l0.length co36 : Value).ownBlock ∧ some k_ ≠ (.slice Ao47 y313.length co47 : Value).ownBlock) (fun _ => False) rfl rfl ?aO ?aR (fun _ _ h => h) (fun _ h => h.elim) ?aF ?aB ?aS ?aL ?_; (case aR => exact (kR_ HO315))
     (case aB => exact fL)
     (case aF => exact u97_)
     (case aO => exact u35_)
     (case aS => exact fJ)
     (case aL => have := LMc32.out; omega)
     intro v317 w46 ho hb hg hat; rw [← Ny316.out] at ho; replace HO_0 := am_ (Kd.R_after (ok := (fun k_ => (P0_ k_ ∨ w.heap.size ≤ k_) ∧ some k_ ≠ (.slice Ao47 y313.length co47 : Value).ownBlock)) u67_ hg hat); replace HO323 := am_ (Kd.V_afterv (ok := (fun k_ => (P0_ k_ ∨ w.heap.size ≤ k_) ∧ some k_ ≠ (.slice Ao47 y313.length co47 : Value).ownBlock)) (by (with_reducible repeat (first | apply Kd.V_alloc | apply Kd.V_drewN | apply Kd.V_drew)); exact Kd.V_mono HO323.out (fun _ hk => ⟨⟨hk.1, hk.2.2⟩, hk.2.1⟩)) hg hat); replace HO315 := am_ (Kd.R_after (ok := (fun k_ => (P0_ k_ ∨ w.heap.size ≤ k_) ∧ some k_ ≠ (.slice Ao36 l0.length co36 : Value).ownBlock)) (by (with_reducible repeat (first | apply Kd.R_alloc | apply Kd.R_drewN | apply Kd.R_drew)); exact Kd.R_mono HO315.out (fun _ hk => ⟨⟨hk.1, hk.2.2⟩, hk.2.1⟩)) hg hat); replace HB := am_ (hb); replace HK := am_ (Kept.of_grown (S := (fun k_ => P0_ k_)) hg u2_ (fun k_ e_ => (HO312.out.1 k_ e_).1)); have HO318 := am_ (ho); clear HO312 ho hb hg hat; refine hK.out _ _ trivial (fun hHeld => ?_); clear hK K; refine nm_ ?_; refine ov_ 11 44 (fun K hK => ?_); refine Kd.R_append_rows_step Kd.string (w0 := w0) w0.heap.size cO (.tmp 40) (.tmp 43) 30 9 (.string ⟨#[]⟩) 16 rfl Tryz.underlying30 eX rfl aC u7_ v317 y316 y319 _ _ _ (fun k_ => (P0_ k_ ∨ w.heap.size ≤ k_) ∧ some k_ ≠ (.slice Ao36 l0.length co36 : Value).ownBlock ∧ some k_ ≠ (.slice Ao47 y313.length co47 : Value).ownBlock) (fun _ => False) rfl rfl ?aO ?aR (fun _ _ h => h) (fun _ h => h.elim) ?aF ?aB ?aS ?aL ?_; (case aR => exact (kV_ HO323))
     (case aB => exact fL)
     (case aF => exact u97_)
     (case aO => exact (aR_ HO318.out))
     (case aS => exact fJ)
     (case aL => have := LMc35.out; omega)
     intro v325 w48 ho hb hg hat; rw [← Ny324.out] at ho; replace HB := am_ (hb); replace HK := am_ (Kept.of_grown (S := (fun k_ => P0_ k_)) hg u2_ (fun k_ e_ => (HO318.out.1 k_ e_).1)); have HO326 := am_ (ho); clear HO318 ho hb hg hat; refine hK.out _ _ trivial (fun hHeld => ?_); clear hK K; refine nm_ ?_; refine pv_ 12 4 ?_; refine dn_ HT_ ?_; try go_wp2
     go_ret
     exact ⟨_, u0_, by (with_reducible repeat (first | apply Kd.R_alloc | apply Kd.R_drewN | apply Kd.R_drew)); exact Kd.R_mono HO326.out (fun _ hk => hk.1), bw_ HB, u2_⟩
    ·rw [if_neg c29] at H; exact absurd H cM
def bv.l0 : Nat → List ByteArray → List ByteArray → Int → Option (List ByteArray × Bool)
 | 0, _, _, _ => none
 | k + 1, x4, x5, x6 => if x6 < (x5.length : Int) then (if 0 ≤ x6 then ((aJ.f k (fg ByteArray.empty x5 x6)).bind fun t334 => (if t334 = true then ((bq.f k x4 (fg ByteArray.empty x5 x6)).bind fun t336 => (bv.l0 k t336 x5 (wrap64 (x6 + 1)))) else (some ((([] : List ByteArray)), false)))) else (none)) else (some (x4, decide ((x5.length : Int) ≤ 4)))
def bv.f (k : Nat) (a0 : ByteArray) : Option (List ByteArray × Bool) := (bl.f k a0 44 (wrap64 ((a0.size : Int) + 1))).bind fun t330 => (bv.l0 k (([] : List ByteArray)) t330 0)
theorem bv.calls (k : Nat) (a0 : ByteArray) (r1 : List ByteArray) (r2 : Bool) (w : World) (h : bv.f k a0 = some (r1, r2)) :
  Calls Tryz.prog 138 #[.string a0] w fun e w' => ∃ v0_ : Value, e = .returned (.tuple #[v0_, .bool r2]) ∧ Kd.R Kd.string 9 w' w.heap.size (fun _ => True) v0_ r1 ∧ Below w.heap.size w w' := by
 have HB := am_ (Below.refl w.heap.size w); have H := h; clear h; unfold bv.f at H
 obtain ⟨y327, hy327⟩ : ∃ y_ : List ByteArray, y_ = (([] : List ByteArray)) := ⟨_, rfl⟩; replace H : ((bl.f k a0 44 (wrap64 ((a0.size : Int) + 1))).bind fun t330 => (bv.l0 k y327 t330 0)) = some (r1, r2) := by first | (rw [hy327]; with_reducible exact H) | (have H2_ := (Option.bind_some _ _).symm.trans H; rw [hy327]; with_reducible exact H2_) | (have H2_ := (Option.bind_some _ _).symm.trans H; with_reducible exact H2_) | with_reducible exact H | (rw [hy327]; exact H) | exact H
 have Ny327 := am_ hy327; clear hy327; obtain ⟨t330, A2, H⟩ := bi_ H; have H' := am_ H; clear H; go_enter Tryz.func138, Tryz.ntmps138
 go_wp2_with (first | ((with_reducible refine aE (N := 7) rfl ?_); refine Kd.R_lit Kd.string _ 9 ?hg (N := 7) ?hd (xs := ([] : List ByteArray)) (inner := []) (ok := fun _ => True) (okp := fun _ => True) ?hr ?hp (fun _ hk => hk) trivial (Below.refl _ _) (Nat.le_refl _) cM ?_; (case hd => rfl); (case hg => rfl); (case hr => exact u6_); (case hp => exact ii); intro v328 w3 ho4 hb hg_ hnew_; clear hg_ hnew_; (first | rw [← Ny327.out] at ho4 | (simp only [Int.reduceToNat] at ho4; rw [← Ny327.out] at ho4)); have HO329 := am_ (Kd.R_lower ho4 (al (bw_ HB))); replace HB := bs_ HB hb; clear hb ho4) | ((with_reducible refine gt_ 12 ?_); refine gf_ 12 Tryz.func159 (bl.calls k a0 44 (wrap64 ((a0.size : Int) + 1)) t330 _ A2.out) ?_; rintro e w5 ⟨v331, rfl, ho0, hb⟩; refine ⟨_, rfl, ?_⟩; have HO332 := am_ (Kd.R_lower (Kd.R_new' ho0 (Kd.R_lt (aR_ HO329.out))) (al (bw_ HB))); replace HO329 := am_ (Kd.R_elder' (aR_ HO329.out) (Kd.R_base ho0) hb); replace HB := bs_ HB hb; (try clear hb); (try clear ho0)))
 go_loopg [4, 6] k (fun kq v4 v6 w' => ∃ (x4_1 : List ByteArray) (x6_1 : Int), v6 = .int .i64 x6_1 ∧ aa (bv.l0 kq x4_1 t330 x6_1 = some (r1, r2)) ∧ aa (kq ≤ k) ∧ aa (Kd.R Kd.string 9 w' w.heap.size (fun k_ => some k_ ≠ (v331 : Value).ownBlock) v4 x4_1) ∧ aa (Kd.R Kd.string 9 w' w.heap.size (fun k_ => some k_ ≠ (v4 : Value).ownBlock) v331 t330) ∧ aa (Below w.heap.size w w'))
 case atStart => exact ⟨(y327), (0), u1_, H', ⟨Nat.le_refl _⟩, ⟨by (with_reducible repeat (first | apply Kd.R_alloc | apply Kd.R_drewN | apply Kd.R_drew)); exact Kd.R_mono HO329.out (fun _ hk => hk.2)⟩, ⟨by (with_reducible repeat (first | apply Kd.R_alloc | apply Kd.R_drewN | apply Kd.R_drew)); exact Kd.R_mono HO332.out (fun _ hk => hk.2)⟩, ⟨bw_ HB⟩⟩
 case round =>
  clear H'; obtain ⟨x4_1, x6_1, rfl, HA, HK1, HO_4, HO_5, HB⟩ := hrel; cases gk with
  | zero => exact absurd HA.out (by simp [bv.l0])
  | succ k1 =>
   have H := HA.out; clear HA; simp only [bv.l0] at H; by_cases c6 : x6_1 < (t330.length : Int)
   ·rw [if_pos c6] at H; have c6b0 := decide_eq_true c6; clear c6; obtain ⟨c7b0, H⟩ := gd_ H; obtain ⟨t334, A8, H⟩ := bi_ H; have HC_ := am_ H; clear H; obtain ⟨Ao14, co14, eo14⟩ := Kd.R_slice HO_5.out; subst eo14; obtain ⟨ad333, e333, hx333_0⟩ := Kd.at_string (Kd.R_reads' HO_5.out).2.2 x6_1 od_ od_; cases e333; obtain ⟨p333, q333⟩ := pt_ x6_1 t330.length; have H := HC_.out; clear HC_; cases t334
    ·replace H := hf_ H; obtain ⟨y339, hy339⟩ : ∃ y_ : List ByteArray, y_ = (([] : List ByteArray)) := ⟨_, rfl⟩; replace H : (some (y339, false)) = some (r1, r2) := by first | (rw [hy339]; with_reducible exact H) | (have H2_ := (Option.bind_some _ _).symm.trans H; rw [hy339]; with_reducible exact H2_) | (have H2_ := (Option.bind_some _ _).symm.trans H; with_reducible exact H2_) | with_reducible exact H | (rw [hy339]; exact H) | exact H
     have Ny339 := am_ hy339; clear hy339; simp only [Option.some.injEq, Prod.mk.injEq] at H; obtain ⟨rfl, rfl⟩ := H; go_wp2_with (first | ((with_reducible refine gt_ 23 ?_); refine gD_ 23 Tryz.func99 (aJ.calls k1 (fg ByteArray.empty t330 x6_1) false _ A8.out) ?_; intro nd) | ((with_reducible refine aE (N := 25) rfl ?_); refine Kd.R_lit Kd.string _ 9 ?hg (N := 25) ?hd (xs := ([] : List ByteArray)) (inner := []) (ok := fun _ => True) (okp := fun _ => True) ?hr ?hp (fun _ hk => hk) trivial (Below.refl _ _) (Nat.le_refl _) cM ?_; (case hd => rfl); (case hg => rfl); (case hr => exact u6_); (case hp => exact ii); intro v340 w15 ho16 hb hg_ hnew_; clear hg_ hnew_; (first | rw [← Ny339.out] at ho16 | (simp only [Int.reduceToNat] at ho16; rw [← Ny339.out] at ho16)); have HO341 := am_ (Kd.R_lower (Kd.R_new' (Kd.R_new' ho16 (Kd.R_lt (aR_ HO_4.out))) (Kd.R_lt (aR_ HO_5.out))) (al (bw_ HB))); replace HB := bs_ HB hb; clear hb ho16))
     go_ret2
     exact ⟨_, u0_, by (with_reducible repeat (first | apply Kd.R_alloc | apply Kd.R_drewN | apply Kd.R_drew)); exact Kd.R_mono HO341.out (fun _ hk => trivial), bw_ HB⟩
    ·replace H := ht_ H; obtain ⟨t336, A10, H⟩ := bi_ H; have H' := am_ H; clear H; go_wp2_with (first | ((with_reducible refine gt_ 23 ?_); refine gD_ 23 Tryz.func99 (aJ.calls k1 (fg ByteArray.empty t330 x6_1) true _ A8.out) ?_; intro nd; obtain ⟨p335, q335⟩ := pq_ x6_1 t330.length; obtain ⟨ad335, e335, hx335_0⟩ := Kd.at_string (Kd.R_reads' HO_5.out).2.2 x6_1 p335 q335; obtain rfl : ad333 = ad335 := (by injection e335); obtain ⟨p335, q335⟩ := tt_ p335 q335; obtain ⟨Ao12, co12, eo12⟩ := Kd.R_slice HO_4.out; subst eo12) | ((with_reducible refine gt_ 31 ?_); refine gf_ 31 Tryz.func160 (bq.calls k1 (fun k_ => some k_ = (.slice Ao12 x4_1.length co12 : Value).ownBlock) (.slice Ao12 x4_1.length co12) x4_1 (fg ByteArray.empty t330 x6_1) t336 w _ ?side1 ?side2 A10.out) ?_; (case side1 => repeat (first | (with_reducible first | exact HB.out | apply bw | apply aw | apply aN) | exact HB.out)); (case side2 => exact Kd.R_tight rfl HO_4.out); rintro e w13 ⟨v337, rfl, ho0, hb, hkp⟩; refine ⟨_, rfl, ?_⟩; have HO338 := am_ (Kd.R_mono (ok' := fun k_ => some k_ ≠ (.slice (some ad333) t330.length co14 : Value).ownBlock) ho0 (fun k_ hk_ => Or.elim hk_ (fun hs_ => fun e_ => (((HO_5.out).1 k_ e_.symm)) hs_) (fun hn_ => (Kd.fresh' (Kd.R_lt (aR_ HO_5.out)) k_ hn_)))); replace HO_5 := am_ (Kd.R_mono (ok' := fun k_ => some k_ ≠ (v337 : Value).ownBlock) (Kd.R_keptB (HO_5.out) hkp (fun k_ hk_ hs_ => (hk_) hs_)) (fun k_ hk_ => fun e_ => Or.elim (ho0.1 k_ e_.symm) (fun hs_ => hk_.2.1 hs_) (fun hn_ => Nat.not_le.2 hk_.2.2 hn_))); replace HB := am_ (hb); clear HO_4; (try clear hb); (try clear hkp); (try clear ho0)))
     go_roundg k1
     case measure => have := HK1.out; omega
     case rel => exact ⟨(t336), (wrap64 (x6_1 + 1)), u1_, H', ⟨dm⟩, ⟨aR_ HO338.out⟩, ⟨aR_ HO_5.out⟩, ⟨bw_ HB⟩⟩
   ·rw [if_neg c6] at H; have c6b0 := decide_eq_false c6; clear c6; simp only [Option.some.injEq, Prod.mk.injEq] at H; obtain ⟨rfl, rfl⟩ := H; obtain ⟨Ao17, co17, eo17⟩ := Kd.R_slice HO_5.out; subst eo17; go_wp2; go_ret2
    exact ⟨_, u0_, by (with_reducible repeat (first | apply Kd.R_alloc | apply Kd.R_drewN | apply Kd.R_drew)); exact Kd.R_mono HO_4.out (fun _ hk => trivial), bw_ HB⟩
def bk.l0 : Nat → ByteArray → Int → Option (Bool)
 | 0, _, _ => none
 | k + 1, x0, x3 => if x3 < (x0.size : Int) then (if 0 ≤ x3 then ((b8.f (wrap64 (bt x0 x3)) 32 126).bind fun t342 => (if t342 = true then (bk.l0 k x0 (wrap64 (x3 + 1))) else (some false))) else (none)) else (some (decide ((x0.size : Int) ≤ 60)))
def bk.f (k : Nat) (a0 : ByteArray) : Option (Bool) := bk.l0 k a0 0
theorem bk.calls (k : Nat) (a0 : ByteArray) (r : Bool) (w : World) (h : bk.f k a0 = some r) :
  Calls Tryz.prog 139 #[.string a0] w fun e w' => e = .returned (.bool r) ∧ Drawn0 w w' := by
 have H := h; clear h; unfold bk.f at H
 have H' := am_ H; clear H; go_enter Tryz.func139, Tryz.ntmps139
 go_wp2; go_loopg [3] k (fun kq v3 w' => ∃ (x3_1 : Int), v3 = .int .i64 x3_1 ∧ aa (bk.l0 kq a0 x3_1 = some r) ∧ aa (kq ≤ k) ∧ Drawn0 w w')
 case atStart => exact ⟨(0), u1_, H', ⟨Nat.le_refl _⟩, u3_⟩
 case round =>
  clear H'; obtain ⟨x3_1, rfl, HA, HK1, ⟨m1, rfl⟩⟩ := hrel; cases gk with
  | zero => exact absurd HA.out (by simp [bk.l0])
  | succ k1 =>
   have H := HA.out; clear HA; simp only [bk.l0] at H; by_cases c2 : x3_1 < (a0.size : Int)
   ·rw [if_pos c2] at H; have c2b0 := decide_eq_true c2; clear c2; obtain ⟨c3b0, H⟩ := gd_ H; obtain ⟨t342, A5, H⟩ := bi_ H; have HC_ := am_ H; clear H; obtain ⟨p4, q4⟩ := pq_ x3_1 a0.size; have hx4 := d6 a0 x3_1; obtain ⟨p4, q4⟩ := tt_ p4 q4; have H := HC_.out; clear HC_; cases t342
    ·replace H := hf_ H; obtain rfl := si_ H; go_wp2_with (first | ((with_reducible refine gt_ 14 ?_); refine gD_ 14 Tryz.func52 (b8.calls (wrap64 (bt a0 x3_1)) 32 126 false _ A5.out) ?_; intro nd))
     go_ret
     exact ⟨u4_, u3_⟩
    ·replace H := ht_ H; have H' := am_ H; clear H; go_wp2_with (first | ((with_reducible refine gt_ 14 ?_); refine gD_ 14 Tryz.func52 (b8.calls (wrap64 (bt a0 x3_1)) 32 126 true _ A5.out) ?_; intro nd))
     go_roundg k1
     case measure => have := HK1.out; omega
     case rel => exact ⟨(wrap64 (x3_1 + 1)), u1_, H', ⟨dm⟩, u3_⟩
   ·rw [if_neg c2] at H; have c2b0 := decide_eq_false c2; clear c2; obtain rfl := si_ H; go_wp2; go_ret
    exact ⟨u4_, u3_⟩
def eb.f (k : Nat) (a0_0 : ByteArray) (a0_1 : Int) (a0_2 : Int) (a1 : ByteArray) : Option (Bool) := (be.f k a1).bind fun bt344 => ((bv.f k a1).bind fun bt346 => ((bk.f k a1).bind fun t350 => (if t350 = true then (if a0_1 = 1 then (some true) else (if a0_1 = 2 then (if bt344.2 = true then (some true) else (if a0_1 = 3 then (some bt346.2) else (some false))) else (if a0_1 = 3 then (some bt346.2) else (some false)))) else (some false))))
theorem eb.calls (k : Nat) (a0_0 : ByteArray) (a0_1 : Int) (a0_2 : Int) (a1 : ByteArray) (r : Bool) (w : World) (h : eb.f k a0_0 a0_1 a0_2 a1 = some r) :
  Calls Tryz.prog 97 #[.agg #[.string a0_0, .int .i64 a0_1, .int .i64 a0_2], .string a1] w fun e w' => e = .returned (.bool r) ∧ Below w.heap.size w w' := by
 have hu92 := Tryz.underlying92; have HB := am_ (Below.refl w.heap.size w); have H := h; clear h; unfold eb.f at H
 obtain ⟨⟨t344, t345⟩, A3, H⟩ := bi_ H; dsimp only at H; obtain ⟨⟨t346, t347⟩, A4, H⟩ := bi_ H; dsimp only at H; obtain ⟨t350, A5, H⟩ := bi_ H; cases t350
 ·replace H := hf_ H; obtain rfl := si_ H; go_enter Tryz.func97, Tryz.ntmps97
  go_wp2_with (first | ((with_reducible refine gt_ 2 ?_); refine bx_ 2 #[.string a0_0, .int .i64 a0_1, .int .i64 a0_2] 92 ?_; intro gb343 hg w30 hbox hb; have GE343 := gw_ HB hg; replace HB := bs_ HB hb; clear hb hbox hg) | ((with_reducible refine gt_ 11 ?_); refine gD_ 11 Tryz.func137 (be.calls k a1 t344 t345 _ A3.out) ?_; intro nd) | ((with_reducible refine gt_ 16 ?_); refine gf_ 16 Tryz.func138 (bv.calls k a1 t346 t347 _ A4.out) ?_; rintro e w31 ⟨v348, rfl, ho0, hb⟩; refine ⟨_, rfl, ?_⟩; replace HB := bs_ HB hb; (try clear hb); (try clear ho0)) | ((with_reducible refine gt_ 20 ?_); refine gD_ 20 Tryz.func139 (bk.calls k a1 false _ A5.out) ?_; intro nd))
  go_ret
  exact ⟨u0_, bw_ HB⟩
 ·replace H := ht_ H; by_cases c7 : a0_1 = 1
  ·rw [if_pos c7] at H; have c7b0 := cV c7; have c7b1 := cW c7; clear c7; obtain rfl := si_ H; go_enter Tryz.func97, Tryz.ntmps97
   go_wp2_with (first | ((with_reducible refine gt_ 2 ?_); refine bx_ 2 #[.string a0_0, .int .i64 a0_1, .int .i64 a0_2] 92 ?_; intro gb343 hg w8 hbox hb; have BK343 := am_ (hbox); have GE343 := gw_ HB hg; replace HB := bs_ HB hb; clear hb hbox hg) | ((with_reducible refine gt_ 11 ?_); refine gD_ 11 Tryz.func137 (be.calls k a1 t344 t345 _ A3.out) ?_; intro nd) | ((with_reducible refine gt_ 16 ?_); refine gf_ 16 Tryz.func138 (bv.calls k a1 t346 t347 _ A4.out) ?_; rintro e w9 ⟨v348, rfl, ho0, hb⟩; refine ⟨_, rfl, ?_⟩; replace BK343 := bb_ BK343 hb; replace HB := bs_ HB hb; (try clear hb); (try clear ho0)) | ((with_reducible refine gt_ 20 ?_); refine gD_ 20 Tryz.func139 (bk.calls k a1 true _ A5.out) ?_; intro nd; obtain ⟨hcz10_0, hcz10_1, hcz10_2, hfz10_0, hfz10_1, hfz10_2⟩ := bR BK343.out))
   go_ret
   exact ⟨u0_, bw_ HB⟩
  ·rw [if_neg c7] at H; have c7b0 := cU c7; have c7b1 := cT c7; by_cases c11 : a0_1 = 2
   ·rw [if_pos c11] at H; have c11b0 := cV c11; have c11b1 := cW c11; clear c11; cases t345
    ·replace H := hf_ H; by_cases c16 : a0_1 = 3
     ·rw [if_pos c16] at H; have c16b0 := cV c16; have c16b1 := cW c16; clear c16; obtain rfl := si_ H; go_enter Tryz.func97, Tryz.ntmps97
      go_wp2_with (first | ((with_reducible refine gt_ 2 ?_); refine bx_ 2 #[.string a0_0, .int .i64 a0_1, .int .i64 a0_2] 92 ?_; intro gb343 hg w17 hbox hb; have BK343 := am_ (hbox); have GE343 := gw_ HB hg; replace HB := bs_ HB hb; clear hb hbox hg) | ((with_reducible refine gt_ 11 ?_); refine gD_ 11 Tryz.func137 (be.calls k a1 t344 false _ A3.out) ?_; intro nd) | ((with_reducible refine gt_ 16 ?_); refine gf_ 16 Tryz.func138 (bv.calls k a1 t346 t347 _ A4.out) ?_; rintro e w18 ⟨v348, rfl, ho0, hb⟩; refine ⟨_, rfl, ?_⟩; replace BK343 := bb_ BK343 hb; replace HB := bs_ HB hb; (try clear hb); (try clear ho0)) | ((with_reducible refine gt_ 20 ?_); refine gD_ 20 Tryz.func139 (bk.calls k a1 true _ A5.out) ?_; intro nd; obtain ⟨hcz19_0, hcz19_1, hcz19_2, hfz19_0, hfz19_1, hfz19_2⟩ := bR BK343.out))
      go_ret
      exact ⟨u0_, bw_ HB⟩
     ·rw [if_neg c16] at H; have c16b0 := cU c16; have c16b1 := cT c16; obtain rfl := si_ H; go_enter Tryz.func97, Tryz.ntmps97
      go_wp2_with (first | ((with_reducible refine gt_ 2 ?_); refine bx_ 2 #[.string a0_0, .int .i64 a0_1, .int .i64 a0_2] 92 ?_; intro gb343 hg w20 hbox hb; have BK343 := am_ (hbox); have GE343 := gw_ HB hg; replace HB := bs_ HB hb; clear hb hbox hg) | ((with_reducible refine gt_ 11 ?_); refine gD_ 11 Tryz.func137 (be.calls k a1 t344 false _ A3.out) ?_; intro nd) | ((with_reducible refine gt_ 16 ?_); refine gf_ 16 Tryz.func138 (bv.calls k a1 t346 t347 _ A4.out) ?_; rintro e w21 ⟨v348, rfl, ho0, hb⟩; refine ⟨_, rfl, ?_⟩; replace BK343 := bb_ BK343 hb; replace HB := bs_ HB hb; (try clear hb); (try clear ho0)) | ((with_reducible refine gt_ 20 ?_); refine gD_ 20 Tryz.func139 (bk.calls k a1 true _ A5.out) ?_; intro nd; obtain ⟨hcz22_0, hcz22_1, hcz22_2, hfz22_0, hfz22_1, hfz22_2⟩ := bR BK343.out))
      go_ret
      exact ⟨u0_, bw_ HB⟩
    ·replace H := ht_ H; obtain rfl := si_ H; go_enter Tryz.func97, Tryz.ntmps97
     go_wp2_with (first | ((with_reducible refine gt_ 2 ?_); refine bx_ 2 #[.string a0_0, .int .i64 a0_1, .int .i64 a0_2] 92 ?_; intro gb343 hg w13 hbox hb; have BK343 := am_ (hbox); have GE343 := gw_ HB hg; replace HB := bs_ HB hb; clear hb hbox hg) | ((with_reducible refine gt_ 11 ?_); refine gD_ 11 Tryz.func137 (be.calls k a1 t344 true _ A3.out) ?_; intro nd) | ((with_reducible refine gt_ 16 ?_); refine gf_ 16 Tryz.func138 (bv.calls k a1 t346 t347 _ A4.out) ?_; rintro e w14 ⟨v348, rfl, ho0, hb⟩; refine ⟨_, rfl, ?_⟩; replace BK343 := bb_ BK343 hb; replace HB := bs_ HB hb; (try clear hb); (try clear ho0)) | ((with_reducible refine gt_ 20 ?_); refine gD_ 20 Tryz.func139 (bk.calls k a1 true _ A5.out) ?_; intro nd; obtain ⟨hcz15_0, hcz15_1, hcz15_2, hfz15_0, hfz15_1, hfz15_2⟩ := bR BK343.out))
     go_ret
     exact ⟨u0_, bw_ HB⟩
   ·rw [if_neg c11] at H; have c11b0 := cU c11; have c11b1 := cT c11; by_cases c23 : a0_1 = 3
    ·rw [if_pos c23] at H; have c23b0 := cV c23; have c23b1 := cW c23; clear c23; obtain rfl := si_ H; go_enter Tryz.func97, Tryz.ntmps97
     go_wp2_with (first | ((with_reducible refine gt_ 2 ?_); refine bx_ 2 #[.string a0_0, .int .i64 a0_1, .int .i64 a0_2] 92 ?_; intro gb343 hg w24 hbox hb; have BK343 := am_ (hbox); have GE343 := gw_ HB hg; replace HB := bs_ HB hb; clear hb hbox hg) | ((with_reducible refine gt_ 11 ?_); refine gD_ 11 Tryz.func137 (be.calls k a1 t344 t345 _ A3.out) ?_; intro nd) | ((with_reducible refine gt_ 16 ?_); refine gf_ 16 Tryz.func138 (bv.calls k a1 t346 t347 _ A4.out) ?_; rintro e w25 ⟨v348, rfl, ho0, hb⟩; refine ⟨_, rfl, ?_⟩; replace BK343 := bb_ BK343 hb; replace HB := bs_ HB hb; (try clear hb); (try clear ho0)) | ((with_reducible refine gt_ 20 ?_); refine gD_ 20 Tryz.func139 (bk.calls k a1 true _ A5.out) ?_; intro nd; obtain ⟨hcz26_0, hcz26_1, hcz26_2, hfz26_0, hfz26_1, hfz26_2⟩ := bR BK343.out))
     go_ret
     exact ⟨u0_, bw_ HB⟩
    ·rw [if_neg c23] at H; have c23b0 := cU c23; have c23b1 := cT c23; obtain rfl := si_ H; go_enter Tryz.func97, Tryz.ntmps97
     go_wp2_with (first | ((with_reducible refine gt_ 2 ?_); refine bx_ 2 #[.string a0_0, .int .i64 a0_1, .int .i64 a0_2] 92 ?_; intro gb343 hg w27 hbox hb; have BK343 := am_ (hbox); have GE343 := gw_ HB hg; replace HB := bs_ HB hb; clear hb hbox hg) | ((with_reducible refine gt_ 11 ?_); refine gD_ 11 Tryz.func137 (be.calls k a1 t344 t345 _ A3.out) ?_; intro nd) | ((with_reducible refine gt_ 16 ?_); refine gf_ 16 Tryz.func138 (bv.calls k a1 t346 t347 _ A4.out) ?_; rintro e w28 ⟨v348, rfl, ho0, hb⟩; refine ⟨_, rfl, ?_⟩; replace BK343 := bb_ BK343 hb; replace HB := bs_ HB hb; (try clear hb); (try clear ho0)) | ((with_reducible refine gt_ 20 ?_); refine gD_ 20 Tryz.func139 (bk.calls k a1 true _ A5.out) ?_; intro nd; obtain ⟨hcz29_0, hcz29_1, hcz29_2, hfz29_0, hfz29_1, hfz29_2⟩ := bR BK343.out))
     go_ret
     exact ⟨u0_, bw_ HB⟩
def aT.l0 : Nat → Int → ByteArray → List (S86) → Option (Bool)
 | 0, _, _, _ => none
 | k + 1, x3, x352000, x352001 => if x3 < (x352001.length : Int) then (if 0 ≤ x3 then ((aJ.f k ((ac x352001 x3).f0)).bind fun t354 => (if t354 = true then ((bk.f k ((ac x352001 x3).f1)).bind fun t356 => (if t356 = true then (if x3 > 0 then (if 0 ≤ (wrap64 (x3 - 1)) then (if (wrap64 (x3 - 1)) < (x352001.length : Int) then (if ((Op.bytesLess (((ac x352001 (wrap64 (x3 - 1))).f0).toList) (((ac x352001 x3).f0).toList)) = true) then (aT.l0 k (wrap64 (x3 + 1)) x352000 x352001) else (some false)) else (none)) else (none)) else (aT.l0 k (wrap64 (x3 + 1)) x352000 x352001)) else (some false))) else (some false))) else (none)) else ((aJ.f k x352000).bind fun t352 => (if t352 = true then (some (decide ((x352001.length : Int) ≤ 4))) else (some false)))
def aT.f (k : Nat) (a0_0 : ByteArray) (l0_1 : List (S86)) : Option (Bool) := aT.l0 k 0 a0_0 l0_1
def aT.T4 : Bool × List (List Nat × List Nat) := (true, [([], []), ([0], [0]), ([], []), ([1, 2], [1, 2]), ([3], [3]), ([4], [4]), ([5], [5]), ([6], [6]), ([7, 6], [7]), ([8], [8]), ([9, 8], [8, 9]), ([8], [8]), ([10, 11, 8], [8, 10, 11]), ([12, 8], [8, 12]), ([13, 8], [8, 13]), ([14, 8, 8], [8, 14]), ([15, 8], [8, 15]), ([8, 16], [8, 16]), ([17, 15], [17]), ([18], [18]), ([19, 18], [18, 19]), ([20, 18, 18], [18, 20]), ([21], [21]), ([22, 21], [21, 22]), ([21], [21]), ([24, 21], [21, 24]), ([23, 25, 21], [21, 23, 25]), ([26, 21], [21, 26]), ([27, 21], [21, 27]), ([21], [21]), ([29, 21], [21, 29]), ([21], [21]), ([30, 31, 21], [21, 30, 31]), ([32, 21], [21, 32]), ([33, 21], [21, 33]), ([28, 34, 21], [21, 28, 34]), ([21, 35, 18], [18, 21, 35]), ([18, 36], [18, 36])])
def aT.B4 : List Nat := [0, 1, 0, 7, 15, 31, 63, 127, 255, 511, 1023, 511, 4095, 8191, 16383, 32767, 65535, 131071, 262143, 524287, 1048575, 2097151, 4194303, 8388607, 4194303, 20971519, 67108863, 134217727, 268435455, 4194303, 541065215, 4194303, 3762290687, 8057257983, 16647192575, 34359738367, 68719476735, 137438953471]
theorem aT.tab4 : dw .any (fm Tryz.f98 4) = aT.T4 := by kernel_rfl
theorem aT.bits4 : de aT.T4.2 aT.B4 = true := by kernel_rfl
theorem aT.calls (k : Nat) (a0_0 : ByteArray) (A0_1 : Option Addr) (c0_1 : Nat) (l0_1 : List (S86)) (r : Bool) (w : World) (hr0_1 : Kd.C k86 w A0_1 l0_1.length l0_1) (hc0_1 : l0_1.length ≤ c0_1) (h : aT.f k a0_0 l0_1 = some r) :
  Calls Tryz.prog 98 #[.agg #[.string a0_0, .slice A0_1 l0_1.length c0_1]] w fun e w' => e = .returned (.bool r) ∧ Below w.heap.size w w' := by
 have hu44 := Tryz.underlying44; have HR0_1 := am_ hr0_1; have HC0_1 := am_ hc0_1; clear hr0_1 hc0_1; have HB := am_ (Below.refl w.heap.size w); have H := h; clear h; unfold aT.f at H
 have H' := am_ H; clear H; go_enter Tryz.func98, Tryz.ntmps98
 go_wp2_with (first | ((with_reducible refine aE (N := 1) rfl ?_); (try (refine a7 cO ?_; dsimp only)); refine bs ?hg (N := 1) ?hd (cs := #[.string a0_0, .slice A0_1 l0_1.length c0_1]) (t := 44) ?hr ?_; (case hd => rfl); (case hg => rfl); (case hr => exact u6_); intro gb351 hg w2 hbox hb; have BK351 := am_ (hbox); have GE351 := gw_ HB hg; replace HB := bs_ HB hb; clear hb hbox hg))
 go_loopg [3] k (fun kq v3 w' => ∃ (x3_1 : Int), v3 = .int .i64 x3_1 ∧ aa (aT.l0 kq x3_1 a0_0 l0_1 = some r) ∧ aa (kq ≤ k) ∧ aa (w'.heap[gb351]? = some (.cells #[.string a0_0, (.slice A0_1 l0_1.length c0_1)] 44 (0, 0))) ∧ aa (Below w.heap.size w w'))
 case atStart => exact ⟨(0), u1_, H', ⟨Nat.le_refl _⟩, ⟨pb_ BK351⟩, ⟨bw_ HB⟩⟩
 case round =>
  clear H'; obtain ⟨x3_1, rfl, HA, HK1, BK351, HB⟩ := hrel; cases gk with
  | zero => exact absurd HA.out (by simp [aT.l0])
  | succ k1 =>
   have H := HA.out; clear HA; simp only [aT.l0] at H; by_cases c3 : x3_1 < (l0_1.length : Int)
   ·rw [if_pos c3] at H; have c3b0 := decide_eq_true c3; clear c3; obtain ⟨c4b0, H⟩ := gd_ H; obtain ⟨t354, A5, H⟩ := bi_ H; cases t354
    ·replace H := hf_ H; obtain rfl := si_ H; obtain ⟨hcz22_0, hcz22_1, hfz22_0, hfz22_1⟩ := bj BK351.out; try go_wp2
     replace BK351 := am_ (bG BK351.out); replace HB := am_ (aN HB.out); obtain ⟨ad353, e353, hx353_0, hx353_1⟩ := dk HR0_1.out x3_1 od_ od_; have hw353_1 := hx353_1; have hw353_0 := hx353_0; cases e353; replace hx353_0 := cb_ HB hx353_0; replace hx353_1 := cb_ HB hx353_1; obtain ⟨p353, q353⟩ := pt_ x3_1 l0_1.length; refine dd (n := 38) (S := fun w' => w'.cell? ⟨gb351, 0, none⟩ = some (.string a0_0) ∧ w'.cell? ⟨gb351, 1, none⟩ = some (.slice (some ad353) l0_1.length c0_1) ∧ w'.cell? (ad353.add ((x3_1).toNat * 2)) = some (.string ((ac l0_1 x3_1).f0)) ∧ w'.cell? ⟨(ad353.add ((x3_1).toNat * 2)).block, (ad353.add ((x3_1).toNat * 2)).off + 1, none⟩ = some (.string ((ac l0_1 x3_1).f1))) (ds := []) (bm_ 38 0) bY rfl rfl ⟨bc_ BK351 0, bc_ BK351 1, (cc_ HB hw353_0), (cc_ HB hw353_1)⟩ (fun hHeld => ?_); refine bH aT.tab4 aT.bits4 (fun HT_ HW_ => ?_); generalize wr.drew = w23 at BK351 HB hx353_0 hx353_1 hHeld ⊢; refine pv_ 0 11 ?_; refine pv_ 2 13 ?_; refine tv_ 1 12 ?_; refine pv_ 3 14 ?_; refine pv_ 4 15 ?_; refine tv_ 5 16 ?_; refine ov_ 6 17 (fun K hK => ?_); refine oD_ Tryz.func99 (aJ.calls k1 ((ac l0_1 x3_1).f0) false _ A5.out) ?_; intro nd; refine hK.out _ _ ⟨bc_ BK351 0, bc_ BK351 1, (cc_ HB hw353_0), (cc_ HB hw353_1)⟩ (fun hHeld => ?_); clear hK K; refine nm_ ?_; refine pv_ 7 18 ?_; refine pv_ 8 19 ?_; refine sv_ 9 20 ?_; refine sv_ 10 21 ?_; refine sv_ 11 22 ?_; refine sv_ 12 23 ?_; refine sv_ 13 24 ?_; refine sv_ 14 25 ?_; refine sv_ 15 26 ?_; refine sv_ 16 27 ?_; refine pv_ 17 28 ?_; refine pv_ 18 29 ?_; refine sv_ 19 30 ?_; refine sv_ 20 31 ?_; refine sv_ 21 32 ?_; refine sv_ 22 33 ?_; refine sv_ 23 34 ?_; refine sv_ 24 35 ?_; refine sv_ 25 36 ?_; refine sv_ 26 37 ?_; refine sv_ 27 38 ?_; refine sv_ 28 39 ?_; refine sv_ 29 40 ?_; refine sv_ 30 41 ?_; refine sv_ 31 42 ?_; refine sv_ 32 43 ?_; refine sv_ 33 44 ?_; refine sv_ 34 45 ?_; refine sv_ 35 46 ?_; refine sv_ 36 47 ?_; refine pv_ 37 48 ?_; refine dn_ HT_ ?_; try go_wp2
     go_ret
     exact ⟨u0_, bw_ HB⟩
    ·replace H := ht_ H; obtain ⟨t356, A7, H⟩ := bi_ H; cases t356
     ·replace H := hf_ H; obtain rfl := si_ H; obtain ⟨hcz20_0, hcz20_1, hfz20_0, hfz20_1⟩ := bj BK351.out; try go_wp2
      replace BK351 := am_ (bG BK351.out); replace HB := am_ (aN HB.out); obtain ⟨ad353, e353, hx353_0, hx353_1⟩ := dk HR0_1.out x3_1 od_ od_; have hw353_1 := hx353_1; have hw353_0 := hx353_0; cases e353; replace hx353_0 := cb_ HB hx353_0; replace hx353_1 := cb_ HB hx353_1; obtain ⟨p353, q353⟩ := pt_ x3_1 l0_1.length; obtain ⟨ad355, e355, hx355_0, hx355_1⟩ := dk HR0_1.out x3_1 od_ od_; have hw355_1 := hx355_1; have hw355_0 := hx355_0; obtain rfl : ad353 = ad355 := (by injection e355); replace hx355_0 := cb_ HB hx355_0; replace hx355_1 := cb_ HB hx355_1; obtain ⟨p355, q355⟩ := pt_ x3_1 l0_1.length; refine dd (n := 38) (S := fun w' => w'.cell? ⟨gb351, 0, none⟩ = some (.string a0_0) ∧ w'.cell? ⟨gb351, 1, none⟩ = some (.slice (some ad353) l0_1.length c0_1) ∧ w'.cell? (ad353.add ((x3_1).toNat * 2)) = some (.string ((ac l0_1 x3_1).f0)) ∧ w'.cell? ⟨(ad353.add ((x3_1).toNat * 2)).block, (ad353.add ((x3_1).toNat * 2)).off + 1, none⟩ = some (.string ((ac l0_1 x3_1).f1)) ∧ w'.cell? (ad353.add ((x3_1).toNat * 2)) = some (.string ((ac l0_1 x3_1).f0)) ∧ w'.cell? ⟨(ad353.add ((x3_1).toNat * 2)).block, (ad353.add ((x3_1).toNat * 2)).off + 1, none⟩ = some (.string ((ac l0_1 x3_1).f1))) (ds := []) (bm_ 38 0) bY rfl rfl ⟨bc_ BK351 0, bc_ BK351 1, (cc_ HB hw353_0), (cc_ HB hw353_1), (cc_ HB hw355_0), (cc_ HB hw355_1)⟩ (fun hHeld => ?_); refine bH aT.tab4 aT.bits4 (fun HT_ HW_ => ?_); generalize wr.drew = w21 at BK351 HB hx353_0 hx353_1 hx355_0 hx355_1 hHeld ⊢; refine pv_ 0 11 ?_; refine pv_ 2 13 ?_; refine tv_ 1 12 ?_; refine pv_ 3 14 ?_; refine pv_ 4 15 ?_; refine tv_ 5 16 ?_; refine ov_ 6 17 (fun K hK => ?_); refine oD_ Tryz.func99 (aJ.calls k1 ((ac l0_1 x3_1).f0) true _ A5.out) ?_; intro nd; refine hK.out _ _ ⟨bc_ BK351 0, bc_ BK351 1, (cc_ HB hw353_0), (cc_ HB hw353_1), (cc_ HB hw355_0), (cc_ HB hw355_1)⟩ (fun hHeld => ?_); clear hK K; refine nm_ ?_; refine pv_ 7 18 ?_; refine pv_ 8 19 ?_; refine pv_ 9 20 ?_; refine pv_ 11 22 ?_; refine tv_ 10 21 ?_; refine pv_ 12 23 ?_; refine pv_ 13 24 ?_; refine tv_ 14 25 ?_; refine ov_ 15 26 (fun K hK => ?_); refine oD_ Tryz.func139 (bk.calls k1 ((ac l0_1 x3_1).f1) false _ A7.out) ?_; intro nd; refine hK.out _ _ ⟨bc_ BK351 0, bc_ BK351 1, (cc_ HB hw353_0), (cc_ HB hw353_1), (cc_ HB hw355_0), (cc_ HB hw355_1)⟩ (fun hHeld => ?_); clear hK K; refine nm_ ?_; refine pv_ 16 27 ?_; refine pv_ 17 28 ?_; refine pv_ 18 29 ?_; refine sv_ 19 30 ?_; refine sv_ 20 31 ?_; refine sv_ 21 32 ?_; refine sv_ 22 33 ?_; refine sv_ 23 34 ?_; refine sv_ 24 35 ?_; refine sv_ 25 36 ?_; refine sv_ 26 37 ?_; refine sv_ 27 38 ?_; refine sv_ 28 39 ?_; refine sv_ 29 40 ?_; refine sv_ 30 41 ?_; refine sv_ 31 42 ?_; refine sv_ 32 43 ?_; refine sv_ 33 44 ?_; refine sv_ 34 45 ?_; refine sv_ 35 46 ?_; refine sv_ 36 47 ?_; refine pv_ 37 48 ?_; refine dn_ HT_ ?_; try go_wp2
      go_ret
      exact ⟨u0_, bw_ HB⟩
     ·replace H := ht_ H; by_cases c9 : x3_1 > 0
      ·rw [if_pos c9] at H; have c9b0 : decide (0 < x3_1) = true := decide_eq_true c9; clear c9; obtain ⟨ji10, hji10⟩ : ∃ j_ : Int, (wrap64 (x3_1 - 1)) = j_ := ⟨_, rfl⟩; replace H : (if 0 ≤ (ji10) then (if (ji10) < (l0_1.length : Int) then (if ((Op.bytesLess (((ac l0_1 (ji10)).f0).toList) (((ac l0_1 x3_1).f0).toList)) = true) then (aT.l0 k1 (wrap64 (x3_1 + 1)) a0_0 l0_1) else (some false)) else (none)) else (none)) = some r := by first | (rw [hji10] at H; exact H) | (simp only [hji10] at H ⊢; exact H)
       (try rw [hji10] at A5)
       (try rw [hji10] at A7)
       have hji10w : (IntKind.i64.wrap (x3_1 - 1)) = ji10 := (ap _).trans hji10; obtain ⟨c11b0, H⟩ := gd_ H; obtain ⟨c12b0, H⟩ := gd_ H; have HC_ := am_ H; clear H; obtain ⟨hcz14_0, hcz14_1, hfz14_0, hfz14_1⟩ := bj BK351.out; try go_wp2
       replace BK351 := am_ (bG BK351.out); replace HB := am_ (aN HB.out); obtain ⟨ad353, e353, hx353_0, hx353_1⟩ := dk HR0_1.out x3_1 od_ od_; have hw353_1 := hx353_1; have hw353_0 := hx353_0; cases e353; replace hx353_0 := cb_ HB hx353_0; replace hx353_1 := cb_ HB hx353_1; obtain ⟨p353, q353⟩ := pt_ x3_1 l0_1.length; obtain ⟨ad355, e355, hx355_0, hx355_1⟩ := dk HR0_1.out x3_1 od_ od_; have hw355_1 := hx355_1; have hw355_0 := hx355_0; obtain rfl : ad353 = ad355 := (by injection e355); replace hx355_0 := cb_ HB hx355_0; replace hx355_1 := cb_ HB hx355_1; obtain ⟨p355, q355⟩ := pt_ x3_1 l0_1.length; obtain ⟨ad357, e357, hx357_0, hx357_1⟩ := dk HR0_1.out (ji10) od_ od_; have hw357_1 := hx357_1; have hw357_0 := hx357_0; obtain rfl : ad353 = ad357 := (by injection e357); replace hx357_0 := cb_ HB hx357_0; replace hx357_1 := cb_ HB hx357_1; obtain ⟨p357, q357⟩ := pt_ (ji10) l0_1.length; obtain ⟨ad358, e358, hx358_0, hx358_1⟩ := dk HR0_1.out x3_1 od_ od_; have hw358_1 := hx358_1; have hw358_0 := hx358_0; obtain rfl : ad353 = ad358 := (by injection e358); replace hx358_0 := cb_ HB hx358_0; replace hx358_1 := cb_ HB hx358_1; obtain ⟨p358, q358⟩ := pt_ x3_1 l0_1.length; refine dd (n := 38) (S := fun w' => w'.cell? ⟨gb351, 0, none⟩ = some (.string a0_0) ∧ w'.cell? ⟨gb351, 1, none⟩ = some (.slice (some ad353) l0_1.length c0_1) ∧ w'.cell? (ad353.add ((x3_1).toNat * 2)) = some (.string ((ac l0_1 x3_1).f0)) ∧ w'.cell? ⟨(ad353.add ((x3_1).toNat * 2)).block, (ad353.add ((x3_1).toNat * 2)).off + 1, none⟩ = some (.string ((ac l0_1 x3_1).f1)) ∧ w'.cell? (ad353.add ((x3_1).toNat * 2)) = some (.string ((ac l0_1 x3_1).f0)) ∧ w'.cell? ⟨(ad353.add ((x3_1).toNat * 2)).block, (ad353.add ((x3_1).toNat * 2)).off + 1, none⟩ = some (.string ((ac l0_1 x3_1).f1)) ∧ w'.cell? (ad353.add (((ji10)).toNat * 2)) = some (.string ((ac l0_1 (ji10)).f0)) ∧ w'.cell? ⟨(ad353.add (((ji10)).toNat * 2)).block, (ad353.add (((ji10)).toNat * 2)).off + 1, none⟩ = some (.string ((ac l0_1 (ji10)).f1)) ∧ w'.cell? (ad353.add ((x3_1).toNat * 2)) = some (.string ((ac l0_1 x3_1).f0)) ∧ w'.cell? ⟨(ad353.add ((x3_1).toNat * 2)).block, (ad353.add ((x3_1).toNat * 2)).off + 1, none⟩ = some (.string ((ac l0_1 x3_1).f1))) (ds := []) (bm_ 38 0) bY rfl rfl ⟨bc_ BK351 0, bc_ BK351 1, (cc_ HB hw353_0), (cc_ HB hw353_1), (cc_ HB hw355_0), (cc_ HB hw355_1), (cc_ HB hw357_0), (cc_ HB hw357_1), (cc_ HB hw358_0), (cc_ HB hw358_1)⟩ (fun hHeld => ?_); refine bH aT.tab4 aT.bits4 (fun HT_ HW_ => ?_); generalize wr.drew = w15 at BK351 HB hx353_0 hx353_1 hx355_0 hx355_1 hx357_0 hx357_1 hx358_0 hx358_1 hHeld ⊢; refine pv_ 0 11 ?_; refine pv_ 2 13 ?_; refine tv_ 1 12 ?_; refine pv_ 3 14 ?_; refine pv_ 4 15 ?_; refine tv_ 5 16 ?_; refine ov_ 6 17 (fun K hK => ?_); refine oD_ Tryz.func99 (aJ.calls k1 ((ac l0_1 x3_1).f0) true _ A5.out) ?_; intro nd; refine hK.out _ _ ⟨bc_ BK351 0, bc_ BK351 1, (cc_ HB hw353_0), (cc_ HB hw353_1), (cc_ HB hw355_0), (cc_ HB hw355_1), (cc_ HB hw357_0), (cc_ HB hw357_1), (cc_ HB hw358_0), (cc_ HB hw358_1)⟩ (fun hHeld => ?_); clear hK K; refine nm_ ?_; refine pv_ 7 18 ?_; refine pv_ 8 19 ?_; refine pv_ 9 20 ?_; refine pv_ 11 22 ?_; refine tv_ 10 21 ?_; refine pv_ 12 23 ?_; refine pv_ 13 24 ?_; refine tv_ 14 25 ?_; refine ov_ 15 26 (fun K hK => ?_); refine oD_ Tryz.func139 (bk.calls k1 ((ac l0_1 x3_1).f1) true _ A7.out) ?_; intro nd; refine hK.out _ _ ⟨bc_ BK351 0, bc_ BK351 1, (cc_ HB hw353_0), (cc_ HB hw353_1), (cc_ HB hw355_0), (cc_ HB hw355_1), (cc_ HB hw357_0), (cc_ HB hw357_1), (cc_ HB hw358_0), (cc_ HB hw358_1)⟩ (fun hHeld => ?_); clear hK K; refine nm_ ?_; refine pv_ 16 27 ?_; refine pv_ 17 28 ?_; refine pv_ 18 29 ?_; refine pv_ 19 30 ?_; refine pv_ 20 31 ?_; refine pv_ 21 32 ?_; refine pv_ 22 33 ?_; refine pv_ 24 35 ?_; refine pv_ 25 36 ?_; refine pv_ 29 40 ?_; refine pv_ 31 42 ?_; refine tv_ 23 34 ?_; refine pv_ 26 37 ?_; refine pv_ 27 38 ?_; refine tv_ 28 39 ?_; refine tv_ 30 41 ?_; refine pv_ 32 43 ?_; refine pv_ 33 44 ?_; refine tv_ 34 45 ?_; refine pv_ 35 46 ?_; refine pv_ 36 47 ?_; refine pv_ 37 48 ?_; refine dn_ HT_ ?_; have H := HC_.out; clear HC_; by_cases c13 : ((Op.bytesLess (((ac l0_1 (ji10)).f0).toList) (((ac l0_1 x3_1).f0).toList)) = true)
       ·rw [if_pos c13] at H; have c13b0 : (Op.bytesLess (((ac l0_1 (ji10)).f0).toList) (((ac l0_1 x3_1).f0).toList)) = true := c13; clear c13; have H' := am_ H; clear H; (first | rw [c13b0] | (simp only [ap, au]; rw [c13b0]) | skip)
        try go_wp2
        go_roundg k1
        case measure => have := HK1.out; omega
        case rel => exact ⟨(wrap64 (x3_1 + 1)), u1_, H', ⟨dm⟩, ⟨pb_ BK351⟩, ⟨bw_ HB⟩⟩
       ·rw [if_neg c13] at H; have c13b0 : (Op.bytesLess (((ac l0_1 (ji10)).f0).toList) (((ac l0_1 x3_1).f0).toList)) = false := by simpa using c13
        clear c13; obtain rfl := si_ H; (first | rw [c13b0] | (simp only [ap, au]; rw [c13b0]) | skip)
        try go_wp2
        go_ret
        exact ⟨by first | rfl | (simp [cw, cx] <;> rfl) | (simp only [← hji10]; first | rfl | (simp [cw, cx] <;> rfl)) | (simp [*, cw, cx] <;> rfl) | (simp; exact dK _), bw_ HB⟩
      ·rw [if_neg c9] at H; have c9b0 : decide (0 < x3_1) = false := decide_eq_false c9; clear c9; have H' := am_ H; clear H; obtain ⟨hcz18_0, hcz18_1, hfz18_0, hfz18_1⟩ := bj BK351.out; try go_wp2
       replace BK351 := am_ (bG BK351.out); replace HB := am_ (aN HB.out); obtain ⟨ad353, e353, hx353_0, hx353_1⟩ := dk HR0_1.out x3_1 od_ od_; have hw353_1 := hx353_1; have hw353_0 := hx353_0; cases e353; replace hx353_0 := cb_ HB hx353_0; replace hx353_1 := cb_ HB hx353_1; obtain ⟨p353, q353⟩ := pt_ x3_1 l0_1.length; obtain ⟨ad355, e355, hx355_0, hx355_1⟩ := dk HR0_1.out x3_1 od_ od_; have hw355_1 := hx355_1; have hw355_0 := hx355_0; obtain rfl : ad353 = ad355 := (by injection e355); replace hx355_0 := cb_ HB hx355_0; replace hx355_1 := cb_ HB hx355_1; obtain ⟨p355, q355⟩ := pt_ x3_1 l0_1.length; refine dd (n := 38) (S := fun w' => w'.cell? ⟨gb351, 0, none⟩ = some (.string a0_0) ∧ w'.cell? ⟨gb351, 1, none⟩ = some (.slice (some ad353) l0_1.length c0_1) ∧ w'.cell? (ad353.add ((x3_1).toNat * 2)) = some (.string ((ac l0_1 x3_1).f0)) ∧ w'.cell? ⟨(ad353.add ((x3_1).toNat * 2)).block, (ad353.add ((x3_1).toNat * 2)).off + 1, none⟩ = some (.string ((ac l0_1 x3_1).f1)) ∧ w'.cell? (ad353.add ((x3_1).toNat * 2)) = some (.string ((ac l0_1 x3_1).f0)) ∧ w'.cell? ⟨(ad353.add ((x3_1).toNat * 2)).block, (ad353.add ((x3_1).toNat * 2)).off + 1, none⟩ = some (.string ((ac l0_1 x3_1).f1))) (ds := []) (bm_ 38 0) bY rfl rfl ⟨bc_ BK351 0, bc_ BK351 1, (cc_ HB hw353_0), (cc_ HB hw353_1), (cc_ HB hw355_0), (cc_ HB hw355_1)⟩ (fun hHeld => ?_); refine bH aT.tab4 aT.bits4 (fun HT_ HW_ => ?_); generalize wr.drew = w19 at BK351 HB hx353_0 hx353_1 hx355_0 hx355_1 hHeld ⊢; refine pv_ 0 11 ?_; refine pv_ 2 13 ?_; refine tv_ 1 12 ?_; refine pv_ 3 14 ?_; refine pv_ 4 15 ?_; refine tv_ 5 16 ?_; refine ov_ 6 17 (fun K hK => ?_); refine oD_ Tryz.func99 (aJ.calls k1 ((ac l0_1 x3_1).f0) true _ A5.out) ?_; intro nd; refine hK.out _ _ ⟨bc_ BK351 0, bc_ BK351 1, (cc_ HB hw353_0), (cc_ HB hw353_1), (cc_ HB hw355_0), (cc_ HB hw355_1)⟩ (fun hHeld => ?_); clear hK K; refine nm_ ?_; refine pv_ 7 18 ?_; refine pv_ 8 19 ?_; refine pv_ 9 20 ?_; refine pv_ 11 22 ?_; refine tv_ 10 21 ?_; refine pv_ 12 23 ?_; refine pv_ 13 24 ?_; refine tv_ 14 25 ?_; refine ov_ 15 26 (fun K hK => ?_); refine oD_ Tryz.func139 (bk.calls k1 ((ac l0_1 x3_1).f1) true _ A7.out) ?_; intro nd; refine hK.out _ _ ⟨bc_ BK351 0, bc_ BK351 1, (cc_ HB hw353_0), (cc_ HB hw353_1), (cc_ HB hw355_0), (cc_ HB hw355_1)⟩ (fun hHeld => ?_); clear hK K; refine nm_ ?_; refine pv_ 16 27 ?_; refine pv_ 17 28 ?_; refine pv_ 18 29 ?_; refine pv_ 19 30 ?_; refine pv_ 20 31 ?_; refine pv_ 21 32 ?_; refine sv_ 22 33 ?_; refine sv_ 23 34 ?_; refine sv_ 24 35 ?_; refine sv_ 25 36 ?_; refine sv_ 26 37 ?_; refine sv_ 27 38 ?_; refine sv_ 28 39 ?_; refine sv_ 29 40 ?_; refine sv_ 30 41 ?_; refine sv_ 31 42 ?_; refine sv_ 32 43 ?_; refine sv_ 33 44 ?_; refine sv_ 34 45 ?_; refine sv_ 35 46 ?_; refine pv_ 36 47 ?_; refine pv_ 37 48 ?_; refine dn_ HT_ ?_; try go_wp2
       go_roundg k1
       case measure => have := HK1.out; omega
       case rel => exact ⟨(wrap64 (x3_1 + 1)), u1_, H', ⟨dm⟩, ⟨pb_ BK351⟩, ⟨bw_ HB⟩⟩
   ·rw [if_neg c3] at H; have c3b0 := decide_eq_false c3; clear c3; obtain ⟨t352, A24, H⟩ := bi_ H; cases t352
    ·replace H := hf_ H; obtain rfl := si_ H; obtain ⟨hcz27_0, hcz27_1, hfz27_0, hfz27_1⟩ := bj BK351.out; go_wp2_with (first | ((with_reducible refine gt_ 51 ?_); refine gD_ 51 Tryz.func99 (aJ.calls k1 a0_0 false _ A24.out) ?_; intro nd))
     go_ret
     exact ⟨u0_, bw_ HB⟩
    ·replace H := ht_ H; obtain rfl := si_ H; obtain ⟨hcz26_0, hcz26_1, hfz26_0, hfz26_1⟩ := bj BK351.out; go_wp2_with (first | ((with_reducible refine gt_ 51 ?_); refine gD_ 51 Tryz.func99 (aJ.calls k1 a0_0 true _ A24.out) ?_; intro nd))
     go_ret
     exact ⟨u0_, bw_ HB⟩
def bc.l0 : Nat → List (S92) → Int → ByteArray → List (S86) → Option (Bool)
 | 0, _, _, _, _ => none
 | k + 1, x0, x5, x360000, x360001 => if x5 < (x360001.length : Int) then (if 0 ≤ x5 then ((ba.f k x0 ((ac x360001 x5).f0)).bind fun t363 => (if t363 < 0 then (some false) else (if 0 ≤ t363 then (if t363 < (x0.length : Int) then ((eb.f k ((ao x0 t363).f0) ((ao x0 t363).f1) ((ao x0 t363).f2) ((ac x360001 x5).f1)).bind fun t366 => (if t366 = true then (bc.l0 k x0 (wrap64 (x5 + 1)) x360000 x360001) else (some false))) else (none)) else (none)))) else (none)) else ((ay.f k x0).bind fun t360 => (if t360 = true then ((aT.f k x360000 x360001).bind fun t361 => (some t361)) else (some false)))
def bc.f (k : Nat) (l0 : List (S92)) (a1_0 : ByteArray) (l1_1 : List (S86)) : Option (Bool) := bc.l0 k l0 0 a1_0 l1_1
def bc.T5 : Bool × List (List Nat × List Nat) := (true, [([], []), ([0], [0]), ([1], [1]), ([2], [2]), ([2], [2]), ([3, 4, 2], [2, 3, 4]), ([5, 2], [2, 5]), ([2], [2]), ([7, 2], [2, 7]), ([2], [2]), ([8, 9, 2], [2, 8, 9]), ([10, 2], [2, 10]), ([11, 2], [2, 11]), ([6, 12, 2, 2], [2, 6, 12]), ([13, 2], [2, 13]), ([2, 14], [2, 14])])
def bc.B5 : List Nat := [0, 1, 3, 7, 7, 31, 63, 7, 135, 7, 903, 1927, 3975, 8191, 16383, 32767]
theorem bc.tab5 : dw .any (fm Tryz.f50 5) = bc.T5 := by kernel_rfl
theorem bc.bits5 : de bc.T5.2 bc.B5 = true := by kernel_rfl
theorem bc.calls (k : Nat) (A0 : Option Addr) (c0 : Nat) (l0 : List (S92)) (a1_0 : ByteArray) (A1_1 : Option Addr) (c1_1 : Nat) (l1_1 : List (S86)) (r : Bool) (w : World) (hr0 : Kd.C k92 w A0 l0.length l0) (hc0 : l0.length ≤ c0) (hr1_1 : Kd.C k86 w A1_1 l1_1.length l1_1) (hc1_1 : l1_1.length ≤ c1_1) (h : bc.f k l0 a1_0 l1_1 = some r) :
  Calls Tryz.prog 50 #[.slice A0 l0.length c0, .agg #[.string a1_0, .slice A1_1 l1_1.length c1_1]] w fun e w' => e = .returned (.bool r) ∧ Below w.heap.size w w' := by
 have hu44 := Tryz.underlying44; have hu92 := Tryz.underlying92; have HR0 := am_ hr0; have HC0 := am_ hc0; clear hr0 hc0; have HR1_1 := am_ hr1_1; have HC1_1 := am_ hc1_1; clear hr1_1 hc1_1; have HB := am_ (Below.refl w.heap.size w); have H := h; clear h; unfold bc.f at H
 have H' := am_ H; clear H; go_enter Tryz.func50, Tryz.ntmps50
 go_wp2_with (first | ((with_reducible refine gt_ 3 ?_); refine bx_ 3 #[.string a1_0, .slice A1_1 l1_1.length c1_1] 44 ?_; intro gb359 hg w3 hbox hb; have BK359 := am_ (hbox); have GE359 := gw_ HB hg; replace HB := bs_ HB hb; clear hb hbox hg))
 go_loopg [5] k (fun kq v5 w' => ∃ (x5_1 : Int), v5 = .int .i64 x5_1 ∧ aa (bc.l0 kq l0 x5_1 a1_0 l1_1 = some r) ∧ aa (kq ≤ k) ∧ aa (w'.heap[gb359]? = some (.cells #[.string a1_0, (.slice A1_1 l1_1.length c1_1)] 44 (0, 0))) ∧ aa (Below w.heap.size w w'))
 case atStart => exact ⟨(0), u1_, H', ⟨Nat.le_refl _⟩, ⟨pb_ BK359⟩, ⟨bw_ HB⟩⟩
 case round =>
  clear H'; obtain ⟨x5_1, rfl, HA, HK1, BK359, HB⟩ := hrel; cases gk with
  | zero => exact absurd HA.out (by simp [bc.l0])
  | succ k1 =>
   have H := HA.out; clear HA; simp only [bc.l0] at H; by_cases c4 : x5_1 < (l1_1.length : Int)
   ·rw [if_pos c4] at H; have c4b0 := decide_eq_true c4; clear c4; obtain ⟨c5b0, H⟩ := gd_ H; obtain ⟨t363, A6, H⟩ := bi_ H; have HC_ := am_ H; clear H; obtain ⟨hcz8_0, hcz8_1, hfz8_0, hfz8_1⟩ := bj BK359.out; obtain ⟨ad362, e362, hx362_0, hx362_1⟩ := dk HR1_1.out x5_1 od_ od_; cases e362; replace hx362_0 := cb_ HB hx362_0; replace hx362_1 := cb_ HB hx362_1; obtain ⟨p362, q362⟩ := pt_ x5_1 l1_1.length; have H := HC_.out; clear HC_; by_cases c7 : t363 < 0
    ·rw [if_pos c7] at H; have c7b0 := decide_eq_true c7; clear c7; obtain rfl := si_ H; (first | rw [c7b0] | (simp only [ap, au]; rw [c7b0]) | skip)
     try go_wp2_with (first | ((with_reducible refine gt_ 21 ?_); refine gD_ 21 Tryz.func96 (ba.calls k1 _ _ l0 ((ac l1_1 x5_1).f0) t363 _ (kc_ HR0 HB) HC0.out A6.out) ?_; intro nd))
     (try (rw [fz wr]; generalize hq_ : World.drewN wr _ = wr; have n0_ : aa (wr.heap[gb359]? = some (.cells #[.string a1_0, .slice (some ad362) l1_1.length c1_1] 44 (0, 0))) := ⟨by rw [← hq_]; exact (pb_ BK359)⟩; have n1_ : aa (Below w.heap.size w wr) := ⟨u80_⟩; clear BK359 HB hq_; have HB := n1_; clear n0_ n1_))
     replace HB := am_ (aN HB.out); refine dd (n := 16) (S := fun w' => True) (ds := []) (bm_ 16 0) bY rfl rfl trivial (fun hHeld => ?_); refine bH bc.tab5 bc.bits5 (fun HT_ HW_ => ?_); generalize wr.drew = w9 at HB hHeld ⊢; refine pv_ 0 22 ?_; refine pv_ 1 23 ?_; refine pv_ 2 24 ?_; refine sv_ 3 25 ?_; refine sv_ 4 26 ?_; refine sv_ 5 27 ?_; refine sv_ 6 28 ?_; refine sv_ 7 29 ?_; refine sv_ 8 30 ?_; refine sv_ 9 31 ?_; refine sv_ 10 32 ?_; refine sv_ 11 33 ?_; refine sv_ 12 34 ?_; refine sv_ 13 35 ?_; refine sv_ 14 36 ?_; refine pv_ 15 37 ?_; refine dn_ HT_ ?_; try go_wp2
     go_ret
     exact ⟨u0_, bw_ HB⟩
    ·rw [if_neg c7] at H; have c7b0 := decide_eq_false c7; clear c7; obtain ⟨c10b0, H⟩ := gd_ H; obtain ⟨c11b0, H⟩ := gd_ H; obtain ⟨t366, A12, H⟩ := bi_ H; have HC_ := am_ H; clear H; (first | rw [c7b0] | (simp only [ap, au]; rw [c7b0]) | skip)
     try go_wp2_with (first | ((with_reducible refine gt_ 21 ?_); refine gD_ 21 Tryz.func96 (ba.calls k1 _ _ l0 ((ac l1_1 x5_1).f0) t363 _ (kc_ HR0 HB) HC0.out A6.out) ?_; intro nd))
     (try (rw [fz wr]; generalize hq_ : World.drewN wr _ = wr; have n0_ : aa (wr.heap[gb359]? = some (.cells #[.string a1_0, .slice (some ad362) l1_1.length c1_1] 44 (0, 0))) := ⟨by rw [← hq_]; exact (pb_ BK359)⟩; have n1_ : aa (Below w.heap.size w wr) := ⟨u80_⟩; clear BK359 HB hq_; have BK359 := n0_; have HB := n1_; clear n0_ n1_))
     replace BK359 := am_ (bG BK359.out); replace HB := am_ (aN HB.out); obtain ⟨ad364, e364, hx364_0, hx364_1, hx364_2⟩ := go HR0.out t363 od_ od_; have hw364_2 := hx364_2; have hw364_1 := hx364_1; have hw364_0 := hx364_0; cases e364; replace hx364_0 := cb_ HB hx364_0; replace hx364_1 := cb_ HB hx364_1; replace hx364_2 := cb_ HB hx364_2; obtain ⟨p364, q364⟩ := pt_ t363 l0.length; obtain ⟨ad365, e365, hx365_0, hx365_1⟩ := dk HR1_1.out x5_1 od_ od_; have hw365_1 := hx365_1; have hw365_0 := hx365_0; obtain rfl : ad362 = ad365 := (by injection e365); replace hx365_0 := cb_ HB hx365_0; replace hx365_1 := cb_ HB hx365_1; obtain ⟨p365, q365⟩ := pt_ x5_1 l1_1.length; refine dd (n := 16) (S := fun w' => w'.cell? ⟨gb359, 0, none⟩ = some (.string a1_0) ∧ w'.cell? ⟨gb359, 1, none⟩ = some (.slice (some ad362) l1_1.length c1_1) ∧ w'.cell? (ad364.add ((t363).toNat * 3)) = some (.string ((ao l0 t363).f0)) ∧ w'.cell? ⟨(ad364.add ((t363).toNat * 3)).block, (ad364.add ((t363).toNat * 3)).off + 1, none⟩ = some (.int .i64 ((ao l0 t363).f1)) ∧ w'.cell? ⟨(ad364.add ((t363).toNat * 3)).block, (ad364.add ((t363).toNat * 3)).off + 2, none⟩ = some (.int .i64 ((ao l0 t363).f2)) ∧ w'.cell? (ad362.add ((x5_1).toNat * 2)) = some (.string ((ac l1_1 x5_1).f0)) ∧ w'.cell? ⟨(ad362.add ((x5_1).toNat * 2)).block, (ad362.add ((x5_1).toNat * 2)).off + 1, none⟩ = some (.string ((ac l1_1 x5_1).f1))) (ds := []) (bm_ 16 0) bY rfl rfl ⟨bc_ BK359 0, bc_ BK359 1, (cc_ HB hw364_0), (cc_ HB hw364_1), (cc_ HB hw364_2), (cc_ HB hw365_0), (cc_ HB hw365_1)⟩ (fun hHeld => ?_); refine bH bc.tab5 bc.bits5 (fun HT_ HW_ => ?_); generalize wr.drew = w18 at BK359 HB hx364_0 hx364_1 hx364_2 hx365_0 hx365_1 hHeld ⊢; refine pv_ 0 22 ?_; refine pv_ 1 23 ?_; refine pv_ 2 24 ?_; refine pv_ 3 25 ?_; refine pv_ 4 26 ?_; refine pv_ 5 27 ?_; refine pv_ 7 29 ?_; refine pv_ 9 31 ?_; refine tv_ 6 28 ?_; refine tv_ 8 30 ?_; refine pv_ 10 32 ?_; refine pv_ 11 33 ?_; refine tv_ 12 34 ?_; refine ov_ 13 35 (fun K hK => ?_); refine oB_ Tryz.func97 (eb.calls k1 ((ao l0 t363).f0) ((ao l0 t363).f1) ((ao l0 t363).f2) ((ac l1_1 x5_1).f1) t366 _ A12.out) ?_; intro w19 hb; replace BK359 := bb_ BK359 hb; replace HB := bs_ HB hb; (try clear hb)
     refine hK.out _ _ ⟨bc_ BK359 0, bc_ BK359 1, (cc_ HB hw364_0), (cc_ HB hw364_1), (cc_ HB hw364_2), (cc_ HB hw365_0), (cc_ HB hw365_1)⟩ (fun hHeld => ?_); clear hK K; refine nm_ ?_; refine pv_ 14 36 ?_; refine pv_ 15 37 ?_; refine dn_ HT_ ?_; have H := HC_.out; clear HC_; cases t366
     ·replace H := hf_ H; obtain rfl := si_ H; try go_wp2
      go_ret
      exact ⟨u0_, bw_ HB⟩
     ·replace H := ht_ H; have H' := am_ H; clear H; try go_wp2
      go_roundg k1
      case measure => have := HK1.out; omega
      case rel => exact ⟨(wrap64 (x5_1 + 1)), u1_, H', ⟨dm⟩, ⟨pb_ BK359⟩, ⟨bw_ HB⟩⟩
   ·rw [if_neg c4] at H; have c4b0 := decide_eq_false c4; clear c4; obtain ⟨t360, A20, H⟩ := bi_ H; cases t360
    ·replace H := hf_ H; obtain rfl := si_ H; obtain ⟨hcz27_0, hcz27_1, hfz27_0, hfz27_1⟩ := bj BK359.out; go_wp2_with (first | ((with_reducible refine gt_ 39 ?_); refine gB_ 39 Tryz.func53 (ay.calls k1 _ _ l0 false _ (kc_ HR0 HB) HC0.out A20.out) ?_; intro w28 hb; replace HB := bs_ HB hb; (try clear hb)))
     go_ret
     exact ⟨u0_, bw_ HB⟩
    ·replace H := ht_ H; obtain ⟨t361, A22, H⟩ := bi_ H; obtain rfl := si_ H; obtain ⟨hcz23_0, hcz23_1, hfz23_0, hfz23_1⟩ := bj BK359.out; go_wp2_with (first | ((with_reducible refine gt_ 39 ?_); refine gB_ 39 Tryz.func53 (ay.calls k1 _ _ l0 true _ (kc_ HR0 HB) HC0.out A20.out) ?_; intro w24 hb; replace BK359 := bb_ BK359 hb; replace HB := bs_ HB hb; (try clear hb); obtain ⟨hcz25_0, hcz25_1, hfz25_0, hfz25_1⟩ := bj BK359.out) | (go_at_call 98; (with_reducible refine (aT.calls k1 a1_0 _ _ l1_1 t361 _ (kc_ HR1_1 HB) HC1_1.out A22.out).mono ?_); rintro e w26 ⟨rfl, hb⟩; replace HB := bs_ HB hb; (try clear hb)))
     go_ret
     exact ⟨u0_, bw_ HB⟩
def bI.l0 : Nat → List (S46) → ByteArray → Int → Option (Int)
 | 0, _, _, _ => none
 | k + 1, x0, x1, x5 => if x5 < (x0.length : Int) then (if 0 ≤ x5 then (if ((ab x0 x5).f1.f0).toList = x1.toList then (some x5) else (bI.l0 k x0 x1 (wrap64 (x5 + 1)))) else (none)) else (some (-1))
def bI.f (k : Nat) (l0 : List (S46)) (a1 : ByteArray) : Option (Int) := bI.l0 k l0 a1 0
theorem bI.calls (k : Nat) (A0 : Option Addr) (c0 : Nat) (l0 : List (S46)) (a1 : ByteArray) (r : Int) (w : World) (hr0 : Kd.C k46 w A0 l0.length l0) (hc0 : l0.length ≤ c0) (h : bI.f k l0 a1 = some r) :
  Calls Tryz.prog 51 #[.slice A0 l0.length c0, .string a1] w fun e w' => e = .returned (.int .i64 r) ∧ Drawn0 w w' := by
 have HR0 := am_ hr0; have HC0 := am_ hc0; clear hr0 hc0; have H := h; clear h; unfold bI.f at H
 have H' := am_ H; clear H; go_enter Tryz.func51, Tryz.ntmps51
 go_wp2; go_loopg [5] k (fun kq v5 w' => ∃ (x5_1 : Int), v5 = .int .i64 x5_1 ∧ aa (bI.l0 kq l0 a1 x5_1 = some r) ∧ aa (kq ≤ k) ∧ Drawn0 w w')
 case atStart => exact ⟨(0), u1_, H', ⟨Nat.le_refl _⟩, u3_⟩
 case round =>
  clear H'; obtain ⟨x5_1, rfl, HA, HK1, ⟨m1, rfl⟩⟩ := hrel; cases gk with
  | zero => exact absurd HA.out (by simp [bI.l0])
  | succ k1 =>
   have H := HA.out; clear HA; simp only [bI.l0] at H; by_cases c3 : x5_1 < (l0.length : Int)
   ·rw [if_pos c3] at H; have c3b0 := decide_eq_true c3; clear c3; obtain ⟨c4b0, H⟩ := gd_ H; have HC_ := am_ H; clear H; obtain ⟨ad367, A367_2, c367_2, e367, hx367_0, hx367_1, hx367_2, hl367_2, hi367_2⟩ := fj HR0.out x5_1 od_ od_; cases e367; have HR367_2 := am_ hi367_2; have HC367_2 := am_ hl367_2; clear hi367_2 hl367_2; obtain ⟨p367, q367⟩ := pt_ x5_1 l0.length; have H := HC_.out; clear HC_; by_cases c5 : ((ab l0 x5_1).f1.f0).toList = a1.toList
    ·rw [if_pos c5] at H; have c5b0 := cV c5; have c5b1 := cW c5; clear c5; obtain rfl := si_ H; (first | rw [c5b0] | (simp only [ap, au]; rw [c5b0]) | skip)
     go_wp2; go_ret
     exact ⟨u4_, u3_⟩
    ·rw [if_neg c5] at H; have c5b0 := cU c5; have c5b1 := cT c5; have H' := am_ H; clear H; (first | rw [c5b0] | (simp only [ap, au]; rw [c5b0]) | skip)
     go_wp2; go_roundg k1
     case measure => have := HK1.out; omega
     case rel => exact ⟨(wrap64 (x5_1 + 1)), u1_, H', ⟨dm⟩, u3_⟩
   ·rw [if_neg c3] at H; have c3b0 := decide_eq_false c3; clear c3; obtain rfl := si_ H; go_wp2; go_ret
    exact ⟨u4_, u3_⟩
def cn.l0 : Nat → List Int → List Int → Int → Option (Bool)
 | 0, _, _, _ => none
 | k + 1, x0, x1, x5 => if x5 < (x0.length : Int) then (if 0 ≤ x5 then (if x5 < (x1.length : Int) then (if (rd x0 x5) = (rd x1 x5) then (cn.l0 k x0 x1 (wrap64 (x5 + 1))) else (some false)) else (none)) else (none)) else (some true)
def cn.f (k : Nat) (l0 : List Int) (l1 : List Int) : Option (Bool) := if (l0.length : Int) = (l1.length : Int) then (cn.l0 k l0 l1 0) else (some false)
theorem cn.calls (k : Nat) (A0 : Option Addr) (c0 : Nat) (l0 : List Int) (A1 : Option Addr) (c1 : Nat) (l1 : List Int) (r : Bool) (w : World) (hr0 : Kd.C (Kd.int .i64) w A0 l0.length l0) (hc0 : l0.length ≤ c0) (hr1 : Kd.C (Kd.int .i64) w A1 l1.length l1) (hc1 : l1.length ≤ c1) (h : cn.f k l0 l1 = some r) :
  Calls Tryz.prog 100 #[.slice A0 l0.length c0, .slice A1 l1.length c1] w fun e w' => e = .returned (.bool r) ∧ Drawn0 w w' := by
 have HR0 := am_ hr0; have HC0 := am_ hc0; clear hr0 hc0; have HR1 := am_ hr1; have HC1 := am_ hc1; clear hr1 hc1; have H := h; clear h; unfold cn.f at H
 by_cases c3 : (l0.length : Int) = (l1.length : Int)
 ·rw [if_pos c3] at H; have c3b0 := cV c3; have c3b1 := cW c3; have c3b2 : (l0.length == l1.length) = true := by first | simpa using c3 | (simp at c3 ⊢; omega)
  clear c3; have H' := am_ H; clear H; go_enter Tryz.func100, Tryz.ntmps100
  go_wp2; repeat (go_quiet (fail); try go_wp2)
  go_loopg [5] k (fun kq v5 w' => ∃ (x5_1 : Int), v5 = .int .i64 x5_1 ∧ aa (cn.l0 kq l0 l1 x5_1 = some r) ∧ aa (kq ≤ k) ∧ Drawn0 w w')
  case atStart => exact ⟨(0), u1_, H', ⟨Nat.le_refl _⟩, u3_⟩
  case round =>
   clear H'; try clear c1
   try clear c3
   try clear c3b0
   try clear c3b1
   try clear c3b2
   obtain ⟨x5_1, rfl, HA, HK1, ⟨m1, rfl⟩⟩ := hrel; cases gk with
   | zero => exact absurd HA.out (by simp [cn.l0])
   | succ k1 =>
    have H := HA.out; clear HA; simp only [cn.l0] at H; by_cases c4 : x5_1 < (l0.length : Int)
    ·rw [if_pos c4] at H; have c4b0 := decide_eq_true c4; clear c4; obtain ⟨c5b0, H⟩ := gd_ H; obtain ⟨c6b0, H⟩ := gd_ H; have HC_ := am_ H; clear H; obtain ⟨ad368, e368, hx368_0⟩ := Kd.at_int HR0.out x5_1 od_ od_; cases e368; obtain ⟨p368, q368⟩ := pt_ x5_1 l0.length; obtain ⟨ad369, e369, hx369_0⟩ := Kd.at_int HR1.out x5_1 od_ od_; cases e369; obtain ⟨p369, q369⟩ := pt_ x5_1 l1.length; have H := HC_.out; clear HC_; by_cases c7 : (rd l0 x5_1) = (rd l1 x5_1)
     ·rw [if_pos c7] at H; have c7b0 := cV c7; have c7b1 := cW c7; clear c7; have H' := am_ H; clear H; (first | rw [c7b0] | (simp only [ap, au]; rw [c7b0]) | skip)
      go_wp2; repeat (go_quiet (fail); try go_wp2)
      go_roundg k1
      case measure => have := HK1.out; omega
      case rel => exact ⟨(wrap64 (x5_1 + 1)), u1_, H', ⟨dm⟩, u3_⟩
     ·rw [if_neg c7] at H; have c7b0 := cU c7; have c7b1 := cT c7; obtain rfl := si_ H; (first | rw [c7b0] | (simp only [ap, au]; rw [c7b0]) | skip)
      go_wp2; repeat (go_quiet (fail); try go_wp2)
      go_ret
      exact ⟨u4_, u3_⟩
    ·rw [if_neg c4] at H; have c4b0 := decide_eq_false c4; clear c4; obtain rfl := si_ H; go_wp2; repeat (go_quiet (fail); try go_wp2)
     go_ret
     exact ⟨u4_, u3_⟩
 ·rw [if_neg c3] at H; have c3b0 := cU c3; have c3b1 := cT c3; have c3b2 : (l0.length == l1.length) = false := by first | simpa using c3 | (simp at c3 ⊢; omega)
  obtain rfl := si_ H; go_enter Tryz.func100, Tryz.ntmps100
  go_wp2; repeat (go_quiet (fail); try go_wp2)
  go_ret
  exact ⟨u4_, u3_⟩
section
open Go Go.RowKit Go.Proofs.YtnjjdojonflckaaGreatDoorW.PrintWords Go.Proofs.YtnjjdojonflckaaGreatDoorW.PrintLast Go.Proofs.YtnjjdojonflckaaGreatDoorW.PrintMore
def aQ.ps (k : Nat) : List S50 → List S50 → Option Bool
 | p :: ps, q :: qs => if p.f0 = q.f0 then (cn.f k p.f1 q.f1).bind fun b => if b = true then aQ.ps k ps qs else some false else some false
 | _, _ => some true
def aQ.es (k : Nat) : List S76 → List S76 → Option Bool
 | x :: xs, y :: ys => if x.f0.toList = y.f0.toList then if x.f1.toList = y.f1.toList then if x.f2.length = y.f2.length then (aQ.ps k x.f2 y.f2).bind fun b => if b = true then aQ.es k xs ys else some false else some false else some false else some false
 | _, _ => some true
def aQ.f (k : Nat) (l0 l1 : List S76) : Option Bool := if l0.length = l1.length then aQ.es k l0 l1 else some false
theorem aQ.rd76 {xs : List S76} {i : Nat} (h : i < xs.length) : aq xs (i : Int) = xs[i] := by unfold aq; simp [List.getD_eq_getElem?_getD, List.getElem?_eq_getElem h]
theorem aQ.rd50 {xs : List S50} {i : Nat} (h : i < xs.length) : bb xs (i : Int) = xs[i] := by unfold bb; simp [List.getD_eq_getElem?_getD, List.getElem?_eq_getElem h]
theorem aQ.calls (k : Nat) (A0 : Option Addr) (c0 : Nat) (l0 : List (S76)) (A1 : Option Addr) (c1 : Nat) (l1 : List (S76)) (r : Bool) (w : World) (hr0 : Kd.C k76 w A0 l0.length l0) (hc0 : l0.length ≤ c0) (hr1 : Kd.C k76 w A1 l1.length l1) (hc1 : l1.length ≤ c1) (h : aQ.f k l0 l1 = some r) :
  Calls Tryz.prog 54 #[.slice A0 l0.length c0, .slice A1 l1.length c1] w fun e w' => e = .returned (.bool r) ∧ Below w.heap.size w w' := by
 have hlen := hr0.2.1; have HB := am_ (Below.refl w.heap.size w); have HR0 := am_ hr0; have HR1 := am_ hr1; unfold aQ.f at h
 clear hr0 hr1; by_cases hl : l0.length = l1.length
 ·rw [if_pos hl] at h; have H := am_ h; have HL := am_ hl; have hlb : ((l0.length : Int) != (l1.length : Int)) = false := by rw [hl]; simp
  clear h hl; go_enter Tryz.func54, Tryz.ntmps54
  go_wp2; go_loopw [5] (fun v5 wr => ∃ i : Nat, v5 = .int .i64 (i : Int) ∧ i ≤ l0.length ∧ aa (aQ.es k (l0.drop i) (l1.drop i) = some r) ∧ aa (Below w.heap.size w wr)) (fun v _ => match v with | .int _ i => l0.length - i.toNat | _ => 0)
  case atStart => exact ⟨0, rfl, Nat.zero_le _, H, HB⟩
  case round =>
   clear H HB; obtain ⟨i, rfl, hi, H, HB⟩ := hrel; rcases Nat.lt_or_ge i l0.length with hlt | hge
   ·have hlt1 : i < l1.length := by rw [← HL.out]; exact hlt
    obtain ⟨ad, Ap, cp, e, hx0, hx1, hx2, _, hpc⟩ := e7 (Kd.C_below HR0.out HB.out) (i : Int) u7_ u7_; obtain ⟨ae, Aq, cq, e', hy0, hy1, hy2, _, hqc⟩ := e7 (Kd.C_below HR1.out HB.out) (i : Int) u7_ u7_; subst e; subst e'; rw [aQ.rd76 hlt] at hx0 hx1 hx2 hpc; rw [aQ.rd76 hlt1] at hy0 hy1 hy2 hqc; simp only [Int.toNat_natCast] at hx0 hx1 hx2 hy0 hy1 hy2; have h := H.out; rw [List.drop_eq_getElem_cons hlt, List.drop_eq_getElem_cons hlt1, aQ.es] at h; generalize l0[i] = x at hx0 hx1 hx2 hpc h; generalize l1[i] = y at hy0 hy1 hy2 hqc h; have p1 : ((i : Int) < (l0.length : Int)) = True := eq_true u7_; have p2 : ((i : Int) < (l1.length : Int)) = True := eq_true u7_; have p0 : (0 ≤ (i : Int)) = True := eq_true u7_; have hplen := hpc.2.1; have HPC := am_ hpc; have HQC := am_ hqc; clear hpc hqc H; by_cases h0 : x.f0.toList = y.f0.toList
    ·rw [if_pos h0] at h; have b0 : (x.f0.toList == y.f0.toList) = true := by simpa using h0
     have b0' : (x.f0.toList != y.f0.toList) = false := by simpa using h0
     by_cases h1 : x.f1.toList = y.f1.toList
     ·rw [if_pos h1] at h; have b1 : (x.f1.toList == y.f1.toList) = true := by simpa using h1
      have b1' : (x.f1.toList != y.f1.toList) = false := by simpa using h1
      by_cases h2 : x.f2.length = y.f2.length
      ·rw [if_pos h2] at h; have H2 := am_ h2; have H := am_ h; have b2 : ((x.f2.length : Int) != (y.f2.length : Int)) = false := by rw [h2]; simp
       clear h h0 h1 h2; go_wp2; go_quiet (fail)
       replace HB := am_ (aw HB.out nq); have HW : aa (Below wr.heap.size wr (wr.drewN nq)) := am_ (aw (Below.refl _ _) nq); generalize wr.drewN nq = w5 at HB HW ⊢; go_wp2; go_loopw [6] (fun v6 ws => ∃ j : Nat, v6 = .int .i64 (j : Int) ∧ j ≤ x.f2.length ∧ aa (((aQ.ps k (x.f2.drop j) (y.f2.drop j)).bind fun b => if b = true then aQ.es k (l0.drop (i + 1)) (l1.drop (i + 1)) else some false) = some r) ∧ aa (Below w.heap.size w ws) ∧ aa (Below wr.heap.size wr ws)) (fun v _ => match v with | .int _ j => x.f2.length - j.toNat | _ => 0)
       case atStart => exact ⟨0, rfl, Nat.zero_le _, H, HB, HW⟩
       case round =>
        clear H HB HW; obtain ⟨j, rfl, hj, H, HB, HW⟩ := hrel; have cx0 := ah HW.out hx0; have cx1 := ah HW.out hx1; have cx2 := ah HW.out hx2; have cy0 := ah HW.out hy0; have cy1 := ah HW.out hy1; have cy2 := ah HW.out hy2; have hj0 : (0 ≤ (j : Int)) = True := eq_true u7_; rcases Nat.lt_or_ge j x.f2.length with hjl | hjg
        ·have hjl1 : j < y.f2.length := by rw [← H2.out]; exact hjl
         have q1 : ((j : Int) < (x.f2.length : Int)) = True := eq_true u7_; have q2 : ((j : Int) < (y.f2.length : Int)) = True := eq_true u7_; obtain ⟨af, Ai, ci, e, hu0, hu1, hui, huc⟩ := ic (Kd.C_below HPC.out HW.out) (j : Int) u7_ u7_; subst e; obtain ⟨ag, Aj, cj, e, hv0, hv1, hvi, hvc⟩ := ic (Kd.C_below HQC.out HW.out) (j : Int) u7_ u7_; subst e; rw [aQ.rd50 hjl] at hu0 hu1 hui huc; rw [aQ.rd50 hjl1] at hv0 hv1 hvi hvc; simp only [Int.toNat_natCast] at hu0 hu1 hv0 hv1; have h := H.out; rw [List.drop_eq_getElem_cons hjl, List.drop_eq_getElem_cons hjl1, aQ.ps] at h; generalize x.f2[j] = p at hu0 hu1 hui huc h; generalize y.f2[j] = q at hv0 hv1 hvi hvc h; by_cases hd : p.f0 = q.f0
         ·have hdb : (p.f0 != q.f0) = false := by rw [hd]; simp
          have hdb' : (p.f0 == q.f0) = true := by rw [hd]; simp
          rw [if_pos hd] at h; rw [Option.bind_assoc] at h; obtain ⟨b, hb, h⟩ := Option.bind_eq_some_iff.1 h; clear hd H; go_wp2; go_quiet ((go_at_call 100; exact Calls.quiet_of ((cn.calls k _ _ _ _ _ _ b _ (Kd.C_drewN huc _) hui (Kd.C_drewN hvc _) hvi hb).mono fun e w' ⟨he, hw⟩ => ⟨he, hw.out⟩)))
          cases b with
          | true =>
           rw [if_pos rfl] at h; go_wp2; go_roundw
           case rel => exact ⟨j + 1, gD, hjl, ⟨h⟩, ⟨aw HB.out nq⟩, ⟨aw HW.out nq⟩⟩
           case measure => (simp; omega)
          | false =>
           simp at h
           obtain rfl := h; go_wp2; go_ret
           exact ⟨rfl, aw HB.out nq⟩
         ·rw [if_neg hd] at h; simp at h
          obtain rfl := h; have hdb : (p.f0 != q.f0) = true := bne_iff_ne.2 hd; have hdb' : (p.f0 == q.f0) = false := by simpa using hd
          clear hd H; go_wp2; go_quiet (fail)
          go_wp2; go_ret
          exact ⟨rfl, aw HB.out _⟩
        ·obtain rfl : j = x.f2.length := by omega
         have h := H.out; have q1 : (((x.f2.length : Nat) : Int) < (x.f2.length : Int)) = False := eq_false u7_; rw [List.drop_eq_nil_of_le (Nat.le_refl _), aQ.ps] at h
         ·simp only [Option.bind_some, if_true] at h; clear H; go_wp2; go_roundw
          case rel => exact ⟨i + 1, gD, hlt, ⟨h⟩, HB⟩
          case measure => (simp; omega)
         ·intro _ _ _ _ he; cases he
      ·rw [if_neg h2] at h; obtain rfl := Option.some.inj h; have b2 : ((x.f2.length : Int) != (y.f2.length : Int)) = true := bne_iff_ne.2 u7_; clear h h0 h1 h2; go_wp2; go_quiet (fail)
       go_wp2; go_ret
       exact ⟨rfl, aw HB.out _⟩
     ·rw [if_neg h1] at h; obtain rfl := Option.some.inj h; have b1 : (x.f1.toList == y.f1.toList) = false := by simpa using h1
      have b1' : (x.f1.toList != y.f1.toList) = true := by simpa using h1
      clear h h0 h1; go_wp2; go_quiet (fail)
      go_wp2; go_ret
      exact ⟨rfl, aw HB.out _⟩
    ·rw [if_neg h0] at h; obtain rfl := Option.some.inj h; have b0 : (x.f0.toList == y.f0.toList) = false := by simpa using h0
     have b0' : (x.f0.toList != y.f0.toList) = true := by simpa using h0
     clear h h0; go_wp2; go_quiet (fail)
     go_wp2; go_ret
     exact ⟨rfl, aw HB.out _⟩
   ·obtain rfl : i = l0.length := by omega
    have h := H.out; rw [List.drop_eq_nil_of_le (Nat.le_refl _), aQ.es] at h
    ·obtain rfl := Option.some.inj h; have p1 : (((l0.length : Nat) : Int) < (l0.length : Int)) = False := eq_false u7_; clear h H; go_wp2; go_ret
     exact ⟨rfl, HB.out⟩
    ·intro _ _ _ _ he; cases he
 ·rw [if_neg hl] at h; obtain rfl := Option.some.inj h; have hlb : ((l0.length : Int) != (l1.length : Int)) = true := bne_iff_ne.2 u7_; clear h hl; go_enter Tryz.func54, Tryz.ntmps54
  go_wp2; go_ret
  exact ⟨rfl, HB.out⟩
end
def bC.l0 : Nat → List (S76) → ByteArray → ByteArray → Int → Option (Int × Bool)
 | 0, _, _, _, _ => none
 | k + 1, x0, x1, x2, x8 => if x8 < (x0.length : Int) then (if 0 ≤ x8 then (if (Op.bytesLess (((aq x0 x8).f0).toList) x1.toList) = true then (bC.l0 k x0 x1 x2 (wrap64 (x8 + 1))) else (if ((aq x0 x8).f0).toList = x1.toList then (if (Op.bytesLess (((aq x0 x8).f1).toList) x2.toList) = true then (bC.l0 k x0 x1 x2 (wrap64 (x8 + 1))) else (some (x8, (((aq x0 x8).f1).toList == x2.toList)))) else (some (x8, false)))) else (none)) else (some (x8, false))
def bC.f (k : Nat) (l0 : List (S76)) (a1 : ByteArray) (a2 : ByteArray) : Option (Int × Bool) := bC.l0 k l0 a1 a2 0
theorem bC.calls (k : Nat) (A0 : Option Addr) (c0 : Nat) (l0 : List (S76)) (a1 : ByteArray) (a2 : ByteArray) (r1 : Int) (r2 : Bool) (w : World) (hr0 : Kd.C k76 w A0 l0.length l0) (hc0 : l0.length ≤ c0) (h : bC.f k l0 a1 a2 = some (r1, r2)) :
  Calls Tryz.prog 95 #[.slice A0 l0.length c0, .string a1, .string a2] w fun e w' => e = .returned (.tuple #[.int .i64 r1, .bool r2]) ∧ Drawn0 w w' := by
 have HR0 := am_ hr0; have HC0 := am_ hc0; clear hr0 hc0; have H := h; clear h; unfold bC.f at H
 have H' := am_ H; clear H; go_enter Tryz.func95, Tryz.ntmps95
 go_wp2; repeat (go_quiet (fail); try go_wp2)
 go_loopg [8] k (fun kq v8 w' => ∃ (x8_1 : Int), v8 = .int .i64 x8_1 ∧ aa (bC.l0 kq l0 a1 a2 x8_1 = some (r1, r2)) ∧ aa (kq ≤ k) ∧ Drawn0 w w')
 case atStart => exact ⟨(0), u1_, H', ⟨Nat.le_refl _⟩, u3_⟩
 case round =>
  clear H'; obtain ⟨x8_1, rfl, HA, HK1, ⟨m1, rfl⟩⟩ := hrel; cases gk with
  | zero => exact absurd HA.out (by simp [bC.l0])
  | succ k1 =>
   have H := HA.out; clear HA; simp only [bC.l0] at H; by_cases c4 : x8_1 < (l0.length : Int)
   ·rw [if_pos c4] at H; have c4b0 := decide_eq_true c4; clear c4; obtain ⟨c5b0, H⟩ := gd_ H; have HC_ := am_ H; clear H; obtain ⟨ad370, A370_2, c370_2, e370, hx370_0, hx370_1, hx370_2, hl370_2, hi370_2⟩ := e7 HR0.out x8_1 od_ od_; cases e370; have HR370_2 := am_ hi370_2; have HC370_2 := am_ hl370_2; clear hi370_2 hl370_2; obtain ⟨p370, q370⟩ := pt_ x8_1 l0.length; have H := HC_.out; clear HC_; by_cases c6 : (Op.bytesLess (((aq l0 x8_1).f0).toList) a1.toList) = true
    ·rw [if_pos c6] at H; have c6b0 : (Op.bytesLess (((aq l0 x8_1).f0).toList) a1.toList) = true := c6; clear c6; have H' := am_ H; clear H; (first | rw [c6b0] | (simp only [ap, au]; rw [c6b0]) | skip)
     go_wp2; repeat (go_quiet (fail); try go_wp2)
     go_roundg k1
     case measure => have := HK1.out; omega
     case rel => exact ⟨(wrap64 (x8_1 + 1)), u1_, H', ⟨dm⟩, u3_⟩
    ·rw [if_neg c6] at H; have c6b0 : (Op.bytesLess (((aq l0 x8_1).f0).toList) a1.toList) = false := by simpa using c6
     clear c6; have HC_ := am_ H; clear H; (first | rw [c6b0] | (simp only [ap, au]; rw [c6b0]) | skip)
     obtain ⟨ad371, A371_2, c371_2, e371, hx371_0, hx371_1, hx371_2, hl371_2, hi371_2⟩ := e7 HR0.out x8_1 od_ od_; obtain rfl : ad370 = ad371 := (by injection e371); have HR371_2 := am_ hi371_2; have HC371_2 := am_ hl371_2; clear hi371_2 hl371_2; obtain ⟨p371, q371⟩ := pt_ x8_1 l0.length; have ea_ := Option.some.inj (hx370_2.symm.trans hx371_2); injection ea_ with ea_ en_ ec_
     subst ea_; subst ec_; clear en_; have H := HC_.out; clear HC_; by_cases c7 : ((aq l0 x8_1).f0).toList = a1.toList
     ·rw [if_pos c7] at H; have c7b0 := cV c7; have c7b1 := cW c7; clear c7; have HC_ := am_ H; clear H; (first | rw [c7b0] | (simp only [ap, au]; rw [c7b0]) | skip)
      obtain ⟨ad372, A372_2, c372_2, e372, hx372_0, hx372_1, hx372_2, hl372_2, hi372_2⟩ := e7 HR0.out x8_1 od_ od_; obtain rfl : ad370 = ad372 := (by injection e372); have HR372_2 := am_ hi372_2; have HC372_2 := am_ hl372_2; clear hi372_2 hl372_2; obtain ⟨p372, q372⟩ := pt_ x8_1 l0.length; have ea_ := Option.some.inj (hx370_2.symm.trans hx372_2); injection ea_ with ea_ en_ ec_
      subst ea_; subst ec_; clear en_; have H := HC_.out; clear HC_; by_cases c8 : (Op.bytesLess (((aq l0 x8_1).f1).toList) a2.toList) = true
      ·rw [if_pos c8] at H; have c8b0 : (Op.bytesLess (((aq l0 x8_1).f1).toList) a2.toList) = true := c8; clear c8; have H' := am_ H; clear H; (first | rw [c8b0] | (simp only [ap, au]; rw [c8b0]) | skip)
       go_wp2; repeat (go_quiet (fail); try go_wp2)
       go_roundg k1
       case measure => have := HK1.out; omega
       case rel => exact ⟨(wrap64 (x8_1 + 1)), u1_, H', ⟨dm⟩, u3_⟩
      ·rw [if_neg c8] at H; have c8b0 : (Op.bytesLess (((aq l0 x8_1).f1).toList) a2.toList) = false := by simpa using c8
       clear c8; simp only [Option.some.injEq, Prod.mk.injEq] at H; obtain ⟨rfl, rfl⟩ := H; (first | rw [c8b0] | (simp only [ap, au]; rw [c8b0]) | skip)
       obtain ⟨ad373, A373_2, c373_2, e373, hx373_0, hx373_1, hx373_2, hl373_2, hi373_2⟩ := e7 HR0.out x8_1 od_ od_; obtain rfl : ad370 = ad373 := (by injection e373); have HR373_2 := am_ hi373_2; have HC373_2 := am_ hl373_2; clear hi373_2 hl373_2; obtain ⟨p373, q373⟩ := pt_ x8_1 l0.length; have ea_ := Option.some.inj (hx370_2.symm.trans hx373_2); injection ea_ with ea_ en_ ec_
       subst ea_; subst ec_; clear en_; obtain ⟨ad374, A374_2, c374_2, e374, hx374_0, hx374_1, hx374_2, hl374_2, hi374_2⟩ := e7 HR0.out x8_1 od_ od_; obtain rfl : ad370 = ad374 := (by injection e374); have HR374_2 := am_ hi374_2; have HC374_2 := am_ hl374_2; clear hi374_2 hl374_2; obtain ⟨p374, q374⟩ := pt_ x8_1 l0.length; have ea_ := Option.some.inj (hx370_2.symm.trans hx374_2); injection ea_ with ea_ en_ ec_
       subst ea_; subst ec_; clear en_; go_wp2; repeat (go_quiet (fail); try go_wp2)
       go_ret2
       exact ⟨u4_, u3_⟩
     ·rw [if_neg c7] at H; have c7b0 := cU c7; have c7b1 := cT c7; simp only [Option.some.injEq, Prod.mk.injEq] at H; obtain ⟨rfl, rfl⟩ := H; (first | rw [c7b0] | (simp only [ap, au]; rw [c7b0]) | skip)
      obtain ⟨ad375, A375_2, c375_2, e375, hx375_0, hx375_1, hx375_2, hl375_2, hi375_2⟩ := e7 HR0.out x8_1 od_ od_; obtain rfl : ad370 = ad375 := (by injection e375); have HR375_2 := am_ hi375_2; have HC375_2 := am_ hl375_2; clear hi375_2 hl375_2; obtain ⟨p375, q375⟩ := pt_ x8_1 l0.length; have ea_ := Option.some.inj (hx370_2.symm.trans hx375_2); injection ea_ with ea_ en_ ec_
      subst ea_; subst ec_; clear en_; go_wp2; repeat (go_quiet (fail); try go_wp2)
      go_ret2
      exact ⟨u4_, u3_⟩
   ·rw [if_neg c4] at H; have c4b0 := decide_eq_false c4; clear c4; simp only [Option.some.injEq, Prod.mk.injEq] at H; obtain ⟨rfl, rfl⟩ := H; go_wp2; repeat (go_quiet (fail); try go_wp2)
    go_ret2
    exact ⟨u4_, u3_⟩
def dM.f (k : Nat) (l0 : List (S92)) (a1 : ByteArray) (a2 : Int) : Option (Bool) := (ba.f k l0 a1).bind fun t376 => (if t376 ≥ 0 then (if 0 ≤ t376 then (if t376 < (l0.length : Int) then (some (((ao l0 t376).f1) == a2)) else (none)) else (none)) else (some false))
theorem dM.calls (k : Nat) (A0 : Option Addr) (c0 : Nat) (l0 : List (S92)) (a1 : ByteArray) (a2 : Int) (r : Bool) (w : World) (hr0 : Kd.C k92 w A0 l0.length l0) (hc0 : l0.length ≤ c0) (h : dM.f k l0 a1 a2 = some r) :
  Calls Tryz.prog 140 #[.slice A0 l0.length c0, .string a1, .int .i64 a2] w fun e w' => e = .returned (.bool r) ∧ Drawn0 w w' := by
 have HR0 := am_ hr0; have HC0 := am_ hc0; clear hr0 hc0; have H := h; clear h; unfold dM.f at H
 obtain ⟨t376, A4, H⟩ := bi_ H; by_cases c5 : t376 ≥ 0
 ·rw [if_pos c5] at H; have c5b0 : decide (0 ≤ t376) = true := decide_eq_true c5; clear c5; obtain ⟨c6b0, H⟩ := gd_ H; obtain ⟨c7b0, H⟩ := gd_ H; obtain rfl := si_ H; go_enter Tryz.func140, Tryz.ntmps140
  go_wp2_with (first | ((with_reducible refine gt_ 10 ?_); refine gD_ 10 Tryz.func96 (ba.calls k _ _ l0 a1 t376 _ ?side1 HC0.out A4.out) ?_; (case side1 => exact u36_); intro nd; obtain ⟨p377, q377⟩ := pq_ t376 l0.length; obtain ⟨ad377, e377, hx377_0, hx377_1, hx377_2⟩ := go HR0.out t376 p377 q377; cases e377; obtain ⟨p377, q377⟩ := tt_ p377 q377))
  go_ret
  exact ⟨u4_, u3_⟩
 ·rw [if_neg c5] at H; have c5b0 : decide (0 ≤ t376) = false := decide_eq_false c5; clear c5; obtain rfl := si_ H; go_enter Tryz.func140, Tryz.ntmps140
  go_wp2_with (first | ((with_reducible refine gt_ 10 ?_); refine gD_ 10 Tryz.func96 (ba.calls k _ _ l0 a1 t376 _ ?side1 HC0.out A4.out) ?_; (case side1 => exact u36_); intro nd))
  go_ret
  exact ⟨u4_, u3_⟩
def cF.f (a0 : Int) : Option (Int) := if a0 ≥ 65 then (if a0 ≤ 90 then (some ((a0 + 32) % 256)) else (some a0)) else (some a0)
theorem cF.calls (a0 : Int) (r : Int) (w : World) (h : cF.f a0 = some r) :
  Calls Tryz.prog 136 #[.int .u8 a0] w fun e w' => e = .returned (.int .u8 r) ∧ Drawn0 w w' := by
 have H := h; clear h; unfold cF.f at H
 by_cases c2 : a0 ≥ 65
 ·rw [if_pos c2] at H; have c2b0 : decide (65 ≤ a0) = true := decide_eq_true c2; clear c2; by_cases c3 : a0 ≤ 90
  ·rw [if_pos c3] at H; have c3b0 := decide_eq_true c3; clear c3; obtain rfl := si_ H; go_enter Tryz.func136, Tryz.ntmps136
   go_wp2; go_ret
   exact ⟨u4_, u3_⟩
  ·rw [if_neg c3] at H; have c3b0 := decide_eq_false c3; clear c3; obtain rfl := si_ H; go_enter Tryz.func136, Tryz.ntmps136
   go_wp2; go_ret
   exact ⟨u4_, u3_⟩
 ·rw [if_neg c2] at H; have c2b0 : decide (65 ≤ a0) = false := decide_eq_false c2; clear c2; obtain rfl := si_ H; go_enter Tryz.func136, Tryz.ntmps136
  go_wp2; go_ret
  exact ⟨u4_, u3_⟩
def dc.l0 : Nat → ByteArray → List Int → Int → Option (ByteArray)
 | 0, _, _, _ => none
 | k + 1, x0, x3, x4 => if x4 < (x0.size : Int) then (if 0 ≤ x4 then ((cF.f (bt x0 x4)).bind fun t381 => (if x3.length < 140737488355328 then (dc.l0 k x0 (x3 ++ [t381]) (wrap64 (x4 + 1))) else (none))) else (none)) else (some (strOfNums x3))
def dc.f (k : Nat) (a0 : ByteArray) : Option (ByteArray) := dc.l0 k a0 (([] : List Int)) 0
theorem dc.calls (k : Nat) (a0 : ByteArray) (r : ByteArray) (w : World) (h : dc.f k a0 = some r) :
  Calls Tryz.prog 93 #[.string a0] w fun e w' => e = .returned (.string r) ∧ Below w.heap.size w w' := by
 have HB := am_ (Below.refl w.heap.size w); have H := h; clear h; unfold dc.f at H
 obtain ⟨y378, hy378⟩ : ∃ y_ : List Int, y_ = (([] : List Int)) := ⟨_, rfl⟩; replace H : (dc.l0 k a0 y378 0) = some r := by first | (rw [hy378]; with_reducible exact H) | (have H2_ := (Option.bind_some _ _).symm.trans H; rw [hy378]; with_reducible exact H2_) | (have H2_ := (Option.bind_some _ _).symm.trans H; with_reducible exact H2_) | with_reducible exact H | (rw [hy378]; exact H) | exact H
 have Ny378 := am_ hy378; clear hy378; have H' := am_ H; clear H; go_enter Tryz.func93, Tryz.ntmps93
 go_wp2_with (first | ((with_reducible refine aE (N := 5) rfl ?_); refine Kd.R_lit (Kd.int .u8) _ 5 ?hg (N := 5) ?hd (xs := ([] : List Int)) (inner := []) (ok := fun _ => True) (okp := fun _ => True) ?hr ?hp (fun _ hk => hk) trivial (Below.refl _ _) (Nat.le_refl _) cM ?_; (case hd => rfl); (case hg => rfl); (case hr => exact u6_); (case hp => exact ii); intro v379 w2 ho3 hb hg_ hnew_; clear hg_ hnew_; (first | rw [← Ny378.out] at ho3 | (simp only [Int.reduceToNat] at ho3; rw [← Ny378.out] at ho3)); have HO380 := am_ (Kd.R_lower ho3 (al (bw_ HB))); replace HB := bs_ HB hb; clear hb ho3))
 go_loopg [3, 4] k (fun kq v3 v4 w' => ∃ (x3_1 : List Int) (x4_1 : Int), v4 = .int .i64 x4_1 ∧ aa (dc.l0 kq a0 x3_1 x4_1 = some r) ∧ aa (kq ≤ k) ∧ aa (Kd.R (Kd.int .u8) 5 w' w.heap.size (fun _ => True) v3 x3_1) ∧ aa (Below w.heap.size w w'))
 case atStart => exact ⟨(y378), (0), u1_, H', ⟨Nat.le_refl _⟩, ⟨aR_ HO380.out⟩, ⟨bw_ HB⟩⟩
 case round =>
  clear H'; obtain ⟨x3_1, x4_1, rfl, HA, HK1, HO_3, HB⟩ := hrel; cases gk with
  | zero => exact absurd HA.out (by simp [dc.l0])
  | succ k1 =>
   have H := HA.out; clear HA; simp only [dc.l0] at H; by_cases c4 : x4_1 < (a0.size : Int)
   ·rw [if_pos c4] at H; have c4b0 := decide_eq_true c4; clear c4; obtain ⟨c5b0, H⟩ := gd_ H; obtain ⟨t381, A7, H⟩ := bi_ H; obtain ⟨LMc8, H⟩ := gl_ H; generalize hy382 : ((x3_1 ++ [t381]) : List Int) = y382 at H; have Ny382 := am_ hy382.symm; clear hy382; have H' := am_ H; clear H; obtain ⟨p6, q6⟩ := pq_ x4_1 a0.size; have hx6 := d6 a0 x4_1; obtain ⟨p6, q6⟩ := tt_ p6 q6; go_wp2_with (first | ((with_reducible refine gt_ 16 ?_); refine gD_ 16 Tryz.func136 (cF.calls (bt a0 x4_1) t381 _ A7.out) ?_; intro nd) | ((with_reducible refine bV (b := .append) (xs := #[.tmp 12, .tmp 17]) rfl ?_); at_builtin; refine Kd.R_append (Kd.int .u8) (w0 := w) w.heap.size rfl (.tmp 12) (.tmp 17) 22 5 (.int .u8 0) 1 rfl Tryz.underlying22 info5 rfl aC u7_ u3 x3_1 t381 [.int .u8 t381] (fun _ => True) (fun _ => False) rfl rfl ?aP (fun _ hk => hk.elim) ?aF ?aO ?aB ?aS ?aL ?_; (case aP => exact rfl); (case aB => exact fL); (case aF => exact jP); (case aO => exact nP); (case aS => exact fJ); (case aL => have := LMc8.out; omega); intro v383 w9 ho hb hg hat; rw [← Ny382.out] at ho; replace HB := am_ (hb); have HO384 := am_ (ho); clear HO_3 ho hb hg hat))
    go_roundg k1
    case measure => have := HK1.out; omega
    case rel => exact ⟨(y382), (wrap64 (x4_1 + 1)), u1_, H', ⟨dm⟩, ⟨aR_ HO384.out⟩, ⟨bw_ HB⟩⟩
   ·rw [if_neg c4] at H; have c4b0 := decide_eq_false c4; clear c4; obtain rfl := si_ H; have hcv10 := ku (P := Tryz.prog) Tryz.underlying22 Tryz.underlying5 Tryz.underlying9 (Kd.own_of_R HO_3.out); go_wp2; go_ret
    exact ⟨u0_, bw_ HB⟩
def bD.l0 : Nat → ByteArray → List ByteArray → Int → Option (Bool)
 | 0, _, _, _ => none
 | k + 1, x0, x3, x4 => if x4 < (x3.length : Int) then (if 0 ≤ x4 then (if (fg ByteArray.empty x3 x4).toList = x0.toList then (some true) else (bD.l0 k x0 x3 (wrap64 (x4 + 1)))) else (none)) else (some false)
def bD.f (k : Nat) (a0 : ByteArray) : Option (Bool) := bD.l0 k a0 (([(⟨#[97]⟩ : ByteArray), (⟨#[97, 110]⟩ : ByteArray), (⟨#[97, 110, 100]⟩ : ByteArray), (⟨#[111, 102]⟩ : ByteArray), (⟨#[116, 104, 101]⟩ : ByteArray), (⟨#[116, 111]⟩ : ByteArray)] : List ByteArray)) 0
theorem bD.calls (k : Nat) (a0 : ByteArray) (r : Bool) (w : World) (h : bD.f k a0 = some r) :
  Calls Tryz.prog 94 #[.string a0] w fun e w' => e = .returned (.bool r) ∧ Below w.heap.size w w' := by
 have HB := am_ (Below.refl w.heap.size w); have H := h; clear h; unfold bD.f at H
 generalize hy385 : ((([(⟨#[97]⟩ : ByteArray), (⟨#[97, 110]⟩ : ByteArray), (⟨#[97, 110, 100]⟩ : ByteArray), (⟨#[111, 102]⟩ : ByteArray), (⟨#[116, 104, 101]⟩ : ByteArray), (⟨#[116, 111]⟩ : ByteArray)] : List ByteArray)) : List ByteArray) = y385 at H; have Ny385 := am_ hy385.symm; clear hy385; have H' := am_ H; clear H; go_enter Tryz.func94, Tryz.ntmps94
 go_wp2_with (first | ((with_reducible refine aE (N := 5) rfl ?_); refine Kd.R_lit Kd.string _ 9 ?hg (N := 5) ?hd (xs := ([(⟨#[97]⟩ : ByteArray), (⟨#[97, 110]⟩ : ByteArray), (⟨#[97, 110, 100]⟩ : ByteArray), (⟨#[111, 102]⟩ : ByteArray), (⟨#[116, 104, 101]⟩ : ByteArray), (⟨#[116, 111]⟩ : ByteArray)] : List ByteArray)) (inner := [.string (⟨#[97]⟩ : ByteArray), .string (⟨#[97, 110]⟩ : ByteArray), .string (⟨#[97, 110, 100]⟩ : ByteArray), .string (⟨#[111, 102]⟩ : ByteArray), .string (⟨#[116, 104, 101]⟩ : ByteArray), .string (⟨#[116, 111]⟩ : ByteArray)]) (ok := fun _ => True) (okp := fun _ => True) ?hr ?hp (fun _ hk => hk) trivial (Below.refl _ _) (Nat.le_refl _) cM ?_; (case hd => rfl); (case hg => rfl); (case hr => exact u6_); (case hp => exact (Reps.one (show Kd.M Kd.string _ _ _ (⟨#[97]⟩ : ByteArray) [.string (⟨#[97]⟩ : ByteArray)] from rfl) (Reps.one (show Kd.M Kd.string _ _ _ (⟨#[97, 110]⟩ : ByteArray) [.string (⟨#[97, 110]⟩ : ByteArray)] from rfl) (Reps.one (show Kd.M Kd.string _ _ _ (⟨#[97, 110, 100]⟩ : ByteArray) [.string (⟨#[97, 110, 100]⟩ : ByteArray)] from rfl) (Reps.one (show Kd.M Kd.string _ _ _ (⟨#[111, 102]⟩ : ByteArray) [.string (⟨#[111, 102]⟩ : ByteArray)] from rfl) (Reps.one (show Kd.M Kd.string _ _ _ (⟨#[116, 104, 101]⟩ : ByteArray) [.string (⟨#[116, 104, 101]⟩ : ByteArray)] from rfl) (Reps.one (show Kd.M Kd.string _ _ _ (⟨#[116, 111]⟩ : ByteArray) [.string (⟨#[116, 111]⟩ : ByteArray)] from rfl) (Reps.none _ _)))))))); intro v386 w2 ho3 hb hg_ hnew_; clear hg_ hnew_; (first | rw [← Ny385.out] at ho3 | (simp only [Int.reduceToNat] at ho3; rw [← Ny385.out] at ho3)); have HO387 := am_ (Kd.R_lower ho3 (al (bw_ HB))); replace HB := bs_ HB hb; clear hb ho3))
 go_loopg [4] k (fun kq v4 w' => ∃ (x4_1 : Int), v4 = .int .i64 x4_1 ∧ aa (bD.l0 kq a0 y385 x4_1 = some r) ∧ aa (kq ≤ k) ∧ aa (Kd.R Kd.string 9 w' w.heap.size (fun _ => True) v386 y385) ∧ aa (Below w.heap.size w w'))
 case atStart => exact ⟨(0), u1_, H', ⟨Nat.le_refl _⟩, ⟨aR_ HO387.out⟩, ⟨bw_ HB⟩⟩
 case round =>
  clear H'; obtain ⟨x4_1, rfl, HA, HK1, HO_3, HB⟩ := hrel; cases gk with
  | zero => exact absurd HA.out (by simp [bD.l0])
  | succ k1 =>
   have H := HA.out; clear HA; simp only [bD.l0] at H; by_cases c4 : x4_1 < (y385.length : Int)
   ·rw [if_pos c4] at H; have c4b0 := decide_eq_true c4; clear c4; obtain ⟨c5b0, H⟩ := gd_ H; have HC_ := am_ H; clear H; obtain ⟨Ao7, co7, eo7⟩ := Kd.R_slice HO_3.out; subst eo7; obtain ⟨ad388, e388, hx388_0⟩ := Kd.at_string (Kd.R_reads' HO_3.out).2.2 x4_1 od_ od_; cases e388; obtain ⟨p388, q388⟩ := pt_ x4_1 y385.length; have H := HC_.out; clear HC_; by_cases c6 : (fg ByteArray.empty y385 x4_1).toList = a0.toList
    ·rw [if_pos c6] at H; have c6b0 := cV c6; have c6b1 := cW c6; clear c6; obtain rfl := si_ H; (first | rw [c6b0] | (simp only [ap, au]; rw [c6b0]) | skip)
     go_wp2; go_ret
     exact ⟨u0_, bw_ HB⟩
    ·rw [if_neg c6] at H; have c6b0 := cU c6; have c6b1 := cT c6; have H' := am_ H; clear H; (first | rw [c6b0] | (simp only [ap, au]; rw [c6b0]) | skip)
     go_wp2; go_roundg k1
     case measure => have := HK1.out; omega
     case rel => exact ⟨(wrap64 (x4_1 + 1)), u1_, H', ⟨dm⟩, ⟨aR_ HO_3.out⟩, ⟨bw_ HB⟩⟩
   ·rw [if_neg c4] at H; have c4b0 := decide_eq_false c4; clear c4; obtain rfl := si_ H; obtain ⟨Ao9, co9, eo9⟩ := Kd.R_slice HO_3.out; subst eo9; go_wp2; go_ret
    exact ⟨u0_, bw_ HB⟩
mutual
def bB.j0 : Nat → ByteArray → Option (ByteArray)
 | 0, _ => none
 | k + 1, x3 => if (x3.size : Int) > 3 then (if 0 ≤ (wrap64 ((x3.size : Int) - 1)) then (if (wrap64 ((x3.size : Int) - 1)) < (x3.size : Int) then (if (bt x3 (wrap64 ((x3.size : Int) - 1))) = 115 then (if 0 ≤ (wrap64 ((x3.size : Int) - 2)) then (if (wrap64 ((x3.size : Int) - 2)) < (x3.size : Int) then (bB.j1 k x3 (x3.size : Int) ((bt x3 (wrap64 ((x3.size : Int) - 2))) != 115)) else (none)) else (none)) else (bB.j1 k x3 (x3.size : Int) false)) else (none)) else (none)) else (bB.j1 k x3 (x3.size : Int) false)
def bB.j1 : Nat → ByteArray → Int → Bool → Option (ByteArray)
 | 0, _, _, _ => none
 | k + 1, x3, x4, x29 => if x29 = true then (if 0 ≤ (wrap64 (x4 - 1)) then (if (wrap64 (x4 - 1)) ≤ (x3.size : Int) then ((bD.f k (x3.extract 0 ((wrap64 (x4 - 1)) : Int).toNat)).bind fun t390 => (if t390 = true then (some (⟨#[]⟩ : ByteArray)) else (some (x3.extract 0 ((wrap64 (x4 - 1)) : Int).toNat)))) else (none)) else (none)) else ((bD.f k x3).bind fun t391 => (if t391 = true then (some (⟨#[]⟩ : ByteArray)) else (some x3)))
end
def bB.f (k : Nat) (a0 : ByteArray) : Option (ByteArray) := (dc.f k a0).bind fun t389 => (if (t389.size : Int) > 12 then (if 0 ≤ 12 then (if 12 ≤ (t389.size : Int) then (bB.j0 k (t389.extract 0 12)) else (none)) else (none)) else (bB.j0 k t389))
theorem bB.calls (k : Nat) (a0 : ByteArray) (r : ByteArray) (w : World) (h : bB.f k a0 = some r) :
  Calls Tryz.prog 47 #[.string a0] w fun e w' => e = .returned (.string r) ∧ Below w.heap.size w w' := by
 have HB := am_ (Below.refl w.heap.size w); have H := h; clear h; unfold bB.f at H
 obtain ⟨t389, A2, H⟩ := bi_ H; have HC3 := am_ H; clear H; go_enter Tryz.func47, Tryz.ntmps47
 go_upto_if 9 with (first | ((with_reducible refine gt_ 6 ?_); refine gB_ 6 Tryz.func93 (dc.calls k a0 t389 _ A2.out) ?_; intro w4 hb; replace HB := bs_ HB hb; (try clear hb)))
 (try simp only [Act.put, List.setIfInBounds_toArray, List.set_cons_zero, List.set_cons_succ])
 go_cut [3] (fun v3 wc => ∃ (kq : Nat) (x3_2 : ByteArray), v3 = .string x3_2 ∧ aa (bB.j0 kq x3_2 = some r) ∧ aa (kq ≤ k) ∧ aa (Below w.heap.size w wc))
 case first =>
  have H := HC3.out; clear HC3; by_cases c5 : (t389.size : Int) > 12
  ·rw [if_pos c5] at H; have c5b0 : decide (12 < (t389.size : Int)) = true := decide_eq_true c5; have c5b1 : decide (12 < t389.size) = true := decide_eq_true u7_; clear c5; (first | rw [c5b0] | (simp only [ap, au]; rw [c5b0]) | skip)
   obtain ⟨c6b0, c6b1, H⟩ := ge_ H; obtain ⟨c7b0, c7b1, H⟩ := ge_ H; have H' := am_ H; clear H; go_wp2; go_meet
   case rel => exact ⟨_, (t389.extract 0 12), u1_, H', ⟨iH⟩, ⟨bw_ HB⟩⟩
  ·rw [if_neg c5] at H; have c5b0 : decide (12 < (t389.size : Int)) = false := decide_eq_false c5; have c5b1 : decide (12 < t389.size) = false := decide_eq_false u7_; clear c5; (first | rw [c5b0] | (simp only [ap, au]; rw [c5b0]) | skip)
   have H' := am_ H; clear H; go_wp2; go_meet
   case rel => exact ⟨_, (t389), u1_, H', ⟨iH⟩, ⟨bw_ HB⟩⟩
 case rest =>
  clear HC3; obtain ⟨kq, x3_2, rfl, HA, HJ2, HB⟩ := hcut; cases kq with
  | zero => exact absurd HA.out (by simp [bB.j0])
  | succ kj2 =>
   have H := HA.out; clear HA; simp only [bB.j0] at H; have HC8 := am_ H; clear H; go_upto_region 5 with (fail)
   go_cut [29] (fun v29 wc => ∃ (kq : Nat) (x29_7 : Bool), v29 = .bool x29_7 ∧ aa (bB.j1 kq x3_2 (x3_2.size : Int) x29_7 = some r) ∧ aa (kq ≤ kj2) ∧ aa (Below w.heap.size w wc))
   case first =>
    have H := HC8.out; clear HC8; by_cases c9 : (x3_2.size : Int) > 3
    ·rw [if_pos c9] at H; have c9b0 : decide (3 < (x3_2.size : Int)) = true := decide_eq_true c9; have c9b1 : decide (3 < x3_2.size) = true := decide_eq_true u7_; clear c9; (first | rw [c9b0] | (simp only [ap, au]; rw [c9b0]) | skip)
     obtain ⟨ji10, hji10⟩ : ∃ j_ : Int, (wrap64 ((x3_2.size : Int) - 1)) = j_ := ⟨_, rfl⟩; replace H : (if 0 ≤ (ji10) then (if (ji10) < (x3_2.size : Int) then (if (bt x3_2 (ji10)) = 115 then (if 0 ≤ (wrap64 ((x3_2.size : Int) - 2)) then (if (wrap64 ((x3_2.size : Int) - 2)) < (x3_2.size : Int) then (bB.j1 kj2 x3_2 (x3_2.size : Int) ((bt x3_2 (wrap64 ((x3_2.size : Int) - 2))) != 115)) else (none)) else (none)) else (bB.j1 kj2 x3_2 (x3_2.size : Int) false)) else (none)) else (none)) = some r := by first | (rw [hji10] at H; exact H) | (simp only [hji10] at H ⊢; exact H)
     have hji10w : (IntKind.i64.wrap ((x3_2.size : Int) - 1)) = ji10 := (ap _).trans hji10; obtain ⟨c11b0, H⟩ := gd_ H; obtain ⟨c12b0, H⟩ := gd_ H; have HC_ := am_ H; clear H; obtain ⟨p13, q13⟩ := pq_ (ji10) x3_2.size; have hx13 := d6 x3_2 (ji10); obtain ⟨p13, q13⟩ := tt_ p13 q13; have H := HC_.out; clear HC_; by_cases c14 : (bt x3_2 (ji10)) = 115
     ·rw [if_pos c14] at H; have c14b0 := cV c14; have c14b1 := cW c14; clear c14; obtain ⟨ji15, hji15⟩ : ∃ j_ : Int, (wrap64 ((x3_2.size : Int) - 2)) = j_ := ⟨_, rfl⟩; replace H : (if 0 ≤ (ji15) then (if (ji15) < (x3_2.size : Int) then (bB.j1 kj2 x3_2 (x3_2.size : Int) ((bt x3_2 (ji15)) != 115)) else (none)) else (none)) = some r := by first | (rw [hji15] at H; exact H) | (simp only [hji15] at H ⊢; exact H)
      have hji15w : (IntKind.i64.wrap ((x3_2.size : Int) - 2)) = ji15 := (ap _).trans hji15; obtain ⟨c16b0, H⟩ := gd_ H; obtain ⟨c17b0, H⟩ := gd_ H; have H' := am_ H; clear H; (first | rw [c14b0] | (simp only [ap, au]; rw [c14b0]) | skip)
      obtain ⟨p18, q18⟩ := pq_ (ji15) x3_2.size; have hx18 := d6 x3_2 (ji15); obtain ⟨p18, q18⟩ := tt_ p18 q18; go_wp2; go_meet
      case rel => exact ⟨_, (((bt x3_2 (ji15)) != 115)), (by first | rfl | (simp; done) | (simp only [← hji15] <;> (first | rfl | simp)) | (simp [*]; done)), H', ⟨u83_⟩, ⟨bw_ HB⟩⟩
     ·rw [if_neg c14] at H; have c14b0 := cU c14; have c14b1 := cT c14; have H' := am_ H; clear H; (first | rw [c14b0] | (simp only [ap, au]; rw [c14b0]) | skip)
      go_wp2; go_meet
      case rel => exact ⟨_, (false), u1_, H', ⟨u83_⟩, ⟨bw_ HB⟩⟩
    ·rw [if_neg c9] at H; have c9b0 : decide (3 < (x3_2.size : Int)) = false := decide_eq_false c9; have c9b1 : decide (3 < x3_2.size) = false := decide_eq_false u7_; clear c9; (first | rw [c9b0] | (simp only [ap, au]; rw [c9b0]) | skip)
     have H' := am_ H; clear H; go_wp2; go_meet
     case rel => exact ⟨_, (false), u1_, H', ⟨u83_⟩, ⟨bw_ HB⟩⟩
   case rest =>
    clear HC8; obtain ⟨kq, x29_7, rfl, HA, HJ7, HB⟩ := hcut; cases kq with
    | zero => exact absurd HA.out (by simp [bB.j1])
    | succ kj7 =>
     have H := HA.out; clear HA; simp only [bB.j1] at H; cases x29_7
     ·replace H := hf_ H; obtain ⟨t391, A27, H⟩ := bi_ H; cases t391
      ·replace H := hf_ H; obtain rfl := si_ H; go_wp2_with (first | ((with_reducible refine gt_ 35 ?_); refine gB_ 35 Tryz.func94 (bD.calls kj7 x3_2 false _ A27.out) ?_; intro w30 hb; replace HB := bs_ HB hb; (try clear hb)))
       go_ret
       exact ⟨u0_, bw_ HB⟩
      ·replace H := ht_ H; obtain rfl := si_ H; go_wp2_with (first | ((with_reducible refine gt_ 35 ?_); refine gB_ 35 Tryz.func94 (bD.calls kj7 x3_2 true _ A27.out) ?_; intro w29 hb; replace HB := bs_ HB hb; (try clear hb)))
       go_ret
       exact ⟨u0_, bw_ HB⟩
     ·replace H := ht_ H; obtain ⟨ji20, hji20⟩ : ∃ j_ : Int, (wrap64 ((x3_2.size : Int) - 1)) = j_ := ⟨_, rfl⟩; replace H : (if 0 ≤ (ji20) then (if (ji20) ≤ (x3_2.size : Int) then ((bD.f kj7 (x3_2.extract 0 ((ji20) : Int).toNat)).bind fun t390 => (if t390 = true then (some (⟨#[]⟩ : ByteArray)) else (some (x3_2.extract 0 ((ji20) : Int).toNat)))) else (none)) else (none)) = some r := by first | (rw [hji20] at H; exact H) | (simp only [hji20] at H ⊢; exact H)
      have hji20w : (IntKind.i64.wrap ((x3_2.size : Int) - 1)) = ji20 := (ap _).trans hji20; obtain ⟨c21b0, c21b1, H⟩ := ge_ H; obtain ⟨c22b0, c22b1, H⟩ := ge_ H; obtain ⟨t390, A23, H⟩ := bi_ H; cases t390
      ·replace H := hf_ H; obtain rfl := si_ H; go_wp2_with (first | ((with_reducible refine dl (f := 94) rfl ?_); refine fl (some 35) rfl rfl Tryz.func94 bY rfl #[.string (x3_2.extract 0 ((ji20) : Int).toNat)] rfl u52_ ?_; (with_reducible refine (bD.calls kj7 (x3_2.extract 0 ((ji20) : Int).toNat) false _ A23.out).mono ?_); rintro e w26 ⟨rfl, hb⟩; refine ⟨_, rfl, ?_⟩; replace HB := bs_ HB hb; (try clear hb)))
       go_ret
       exact ⟨u44_, bw_ HB⟩
      ·replace H := ht_ H; obtain rfl := si_ H; go_wp2_with (first | ((with_reducible refine dl (f := 94) rfl ?_); refine fl (some 35) rfl rfl Tryz.func94 bY rfl #[.string (x3_2.extract 0 ((ji20) : Int).toNat)] rfl u52_ ?_; (with_reducible refine (bD.calls kj7 (x3_2.extract 0 ((ji20) : Int).toNat) true _ A23.out).mono ?_); rintro e w25 ⟨rfl, hb⟩; refine ⟨_, rfl, ?_⟩; replace HB := bs_ HB hb; (try clear hb)))
       go_ret
       exact ⟨u44_, bw_ HB⟩
def dy.f (a0 : Int) : Option (Bool) := (cF.f a0).bind fun t392 => (if t392 ≥ 97 then (if t392 ≤ 122 then (some true) else (if t392 ≥ 48 then (some (decide (t392 ≤ 57))) else (some false))) else (if t392 ≥ 48 then (some (decide (t392 ≤ 57))) else (some false)))
theorem dy.calls (a0 : Int) (r : Bool) (w : World) (h : dy.f a0 = some r) :
  Calls Tryz.prog 181 #[.int .u8 a0] w fun e w' => e = .returned (.bool r) ∧ Drawn0 w w' := by
 have H := h; clear h; unfold dy.f at H
 obtain ⟨t392, A2, H⟩ := bi_ H; by_cases c3 : t392 ≥ 97
 ·rw [if_pos c3] at H; have c3b0 : decide (97 ≤ t392) = true := decide_eq_true c3; clear c3; by_cases c4 : t392 ≤ 122
  ·rw [if_pos c4] at H; have c4b0 := decide_eq_true c4; clear c4; obtain rfl := si_ H; go_enter Tryz.func181, Tryz.ntmps181
   go_wp2_with (first | ((with_reducible refine gt_ 5 ?_); refine gD_ 5 Tryz.func136 (cF.calls a0 t392 _ A2.out) ?_; intro nd))
   go_ret
   exact ⟨u4_, u3_⟩
  ·rw [if_neg c4] at H; have c4b0 := decide_eq_false c4; clear c4; by_cases c5 : t392 ≥ 48
   ·rw [if_pos c5] at H; have c5b0 : decide (48 ≤ t392) = true := decide_eq_true c5; clear c5; obtain rfl := si_ H; go_enter Tryz.func181, Tryz.ntmps181
    go_wp2_with (first | ((with_reducible refine gt_ 5 ?_); refine gD_ 5 Tryz.func136 (cF.calls a0 t392 _ A2.out) ?_; intro nd))
    go_ret
    exact ⟨u4_, u3_⟩
   ·rw [if_neg c5] at H; have c5b0 : decide (48 ≤ t392) = false := decide_eq_false c5; clear c5; obtain rfl := si_ H; go_enter Tryz.func181, Tryz.ntmps181
    go_wp2_with (first | ((with_reducible refine gt_ 5 ?_); refine gD_ 5 Tryz.func136 (cF.calls a0 t392 _ A2.out) ?_; intro nd))
    go_ret
    exact ⟨u4_, u3_⟩
 ·rw [if_neg c3] at H; have c3b0 : decide (97 ≤ t392) = false := decide_eq_false c3; clear c3; by_cases c6 : t392 ≥ 48
  ·rw [if_pos c6] at H; have c6b0 : decide (48 ≤ t392) = true := decide_eq_true c6; clear c6; obtain rfl := si_ H; go_enter Tryz.func181, Tryz.ntmps181
   go_wp2_with (first | ((with_reducible refine gt_ 5 ?_); refine gD_ 5 Tryz.func136 (cF.calls a0 t392 _ A2.out) ?_; intro nd))
   go_ret
   exact ⟨u4_, u3_⟩
  ·rw [if_neg c6] at H; have c6b0 : decide (48 ≤ t392) = false := decide_eq_false c6; clear c6; obtain rfl := si_ H; go_enter Tryz.func181, Tryz.ntmps181
   go_wp2_with (first | ((with_reducible refine gt_ 5 ?_); refine gD_ 5 Tryz.func136 (cF.calls a0 t392 _ A2.out) ?_; intro nd))
   go_ret
   exact ⟨u4_, u3_⟩
mutual
def a6.l0 : Nat → ByteArray → List (S90) → Int → Option ((List (S90)))
 | 0, _, _, _ => none
 | k + 1, x0, x3, x4 => if x4 < (x0.size : Int) then (a6.l1 k x0 x3 x4 x4) else (some x3)
def a6.l1 : Nat → ByteArray → List (S90) → Int → Int → Option ((List (S90)))
 | 0, _, _, _, _ => none
 | k + 1, x0, x3, x4, x5 => if x5 < (x0.size : Int) then (if 0 ≤ x5 then ((dy.f (bt x0 x5)).bind fun t396 => (if t396 = true then (a6.l1 k x0 x3 x4 (wrap64 (x5 + 1))) else (if x5 = x4 then (a6.l0 k x0 x3 (wrap64 (x4 + 1))) else (if 0 ≤ x4 then (if x4 ≤ x5 then (if x5 ≤ (x0.size : Int) then (if x3.length < 4398046511104 then (a6.l0 k x0 (x3 ++ [(⟨x0.extract (x4 : Int).toNat (x5 : Int).toNat, x4, x5⟩ : S90)]) x5) else (none)) else (none)) else (none)) else (none))))) else (none)) else (if x5 = x4 then (a6.l0 k x0 x3 (wrap64 (x4 + 1))) else (if 0 ≤ x4 then (if x4 ≤ x5 then (if x5 ≤ (x0.size : Int) then (if x3.length < 4398046511104 then (a6.l0 k x0 (x3 ++ [(⟨x0.extract (x4 : Int).toNat (x5 : Int).toNat, x4, x5⟩ : S90)]) x5) else (none)) else (none)) else (none)) else (none)))
end
def a6.f (k : Nat) (a0 : ByteArray) : Option ((List (S90))) := a6.l0 k a0 (([] : List (S90))) 0
theorem a6.calls (k : Nat) (a0 : ByteArray) (r : List (S90)) (w : World) (h : a6.f k a0 = some r) :
  Calls Tryz.prog 161 #[.string a0] w fun e w' => ∃ v0_ : Value, e = .returned (v0_) ∧ Kd.R k90 90 w' w.heap.size (fun _ => True) v0_ r ∧ Below w.heap.size w w' := by
 have hu90 := Tryz.underlying90; have HB := am_ (Below.refl w.heap.size w); have H := h; clear h; unfold a6.f at H
 obtain ⟨y393, hy393⟩ : ∃ y_ : List (S90), y_ = (([] : List (S90))) := ⟨_, rfl⟩; replace H : (a6.l0 k a0 y393 0) = some r := by first | (rw [hy393]; with_reducible exact H) | (have H2_ := (Option.bind_some _ _).symm.trans H; rw [hy393]; with_reducible exact H2_) | (have H2_ := (Option.bind_some _ _).symm.trans H; with_reducible exact H2_) | with_reducible exact H | (rw [hy393]; exact H) | exact H
 have Ny393 := am_ hy393; clear hy393; have H' := am_ H; clear H; go_enter Tryz.func161, Tryz.ntmps161
 go_wp2_with (first | ((with_reducible refine aE (N := 6) rfl ?_); refine Kd.R_lit k90 _ 90 ?hg (N := 6) ?hd (xs := ([] : List (S90))) (inner := []) (ok := fun _ => True) (okp := fun _ => True) ?hr ?hp (fun _ hk => hk) trivial (Below.refl _ _) (Nat.le_refl _) cM ?_; (case hd => rfl); (case hg => rfl); (case hr => exact u6_); (case hp => exact ii); intro v394 w2 ho3 hb hg_ hnew_; clear hg_ hnew_; (first | rw [← Ny393.out] at ho3 | (simp only [Int.reduceToNat] at ho3; rw [← Ny393.out] at ho3)); have HO395 := am_ (Kd.R_lower ho3 (al (bw_ HB))); replace HB := bs_ HB hb; clear hb ho3))
 go_loopg [3, 4] k (fun kq v3 v4 w' => ∃ (x3_1 : List (S90)) (x4_1 : Int), v4 = .int .i64 x4_1 ∧ aa (a6.l0 kq a0 x3_1 x4_1 = some r) ∧ aa (kq ≤ k) ∧ aa (Kd.R k90 90 w' w.heap.size (fun _ => True) v3 x3_1) ∧ aa (Below w.heap.size w w'))
 case atStart => exact ⟨(y393), (0), u1_, H', ⟨Nat.le_refl _⟩, ⟨aR_ HO395.out⟩, ⟨bw_ HB⟩⟩
 case round =>
  clear H'; obtain ⟨x3_1, x4_1, rfl, HA, HK1, HO_3, HB⟩ := hrel; cases gk with
  | zero => exact absurd HA.out (by simp [a6.l0])
  | succ k1 =>
   have H := HA.out; clear HA; simp only [a6.l0] at H; by_cases c4 : x4_1 < (a0.size : Int)
   ·rw [if_pos c4] at H; have c4b0 := decide_eq_true c4; clear c4; have H' := am_ H; clear H; go_wp2; go_loopg [5] k1 (fun kq v5 w' => ∃ (x5_2 : Int), v5 = .int .i64 x5_2 ∧ aa (a6.l1 kq a0 x3_1 x4_1 x5_2 = some r) ∧ aa (kq ≤ k1) ∧ aa (Kd.R k90 90 w' w.heap.size (fun _ => True) u3 x3_1) ∧ aa (Below w.heap.size w w'))
    case atStart => exact ⟨(x4_1), u1_, H', ⟨Nat.le_refl _⟩, ⟨aR_ HO_3.out⟩, ⟨bw_ HB⟩⟩
    case round =>
     clear H'; try clear c4
     try clear c4b0
     obtain ⟨x5_2, rfl, HA, HK2, HO_3, HB⟩ := hrel; cases gk with
     | zero => exact absurd HA.out (by simp [a6.l1])
     | succ k2 =>
      have H := HA.out; clear HA; simp only [a6.l1] at H; by_cases c5 : x5_2 < (a0.size : Int)
      ·rw [if_pos c5] at H; have c5b0 := decide_eq_true c5; clear c5; obtain ⟨c6b0, H⟩ := gd_ H; obtain ⟨t396, A8, H⟩ := bi_ H; have HC_ := am_ H; clear H; obtain ⟨p7, q7⟩ := pq_ x5_2 a0.size; have hx7 := d6 a0 x5_2; obtain ⟨p7, q7⟩ := tt_ p7 q7; have H := HC_.out; clear HC_; cases t396
       ·replace H := hf_ H; have HC_ := am_ H; clear H; have H := HC_.out; clear HC_; by_cases c10 : x5_2 = x4_1
        ·rw [if_pos c10] at H; have c10b0 := cV c10; have c10b1 := cW c10; clear c10; have H' := am_ H; clear H; (first | rw [c10b0] | (simp only [ap, au]; rw [c10b0]) | skip)
         go_wp2_with (first | (go_at_call 181; (with_reducible refine (dy.calls (bt a0 x5_2) false _ A8.out).mono ?_); rintro e w' ⟨rfl, ⟨nd, rfl⟩⟩))
         go_roundg k2
         case measure => have := HK1.out; have := HK2.out; omega
         case rel => exact ⟨(x3_1), (wrap64 (x4_1 + 1)), u1_, H', ⟨lR⟩, ⟨aR_ HO_3.out⟩, ⟨bw_ HB⟩⟩
        ·rw [if_neg c10] at H; have c10b0 := cU c10; have c10b1 := cT c10; obtain ⟨c11b0, c11b1, H⟩ := ge_ H; obtain ⟨c12b0, c12b1, H⟩ := ge_ H; obtain ⟨c13b0, c13b1, H⟩ := ge_ H; obtain ⟨LMc14, H⟩ := gl_ H; generalize hy397 : ((x3_1 ++ [(⟨a0.extract (x4_1 : Int).toNat (x5_2 : Int).toNat, x4_1, x5_2⟩ : S90)]) : List (S90)) = y397 at H; have Ny397 := am_ hy397.symm; clear hy397; have H' := am_ H; clear H; (first | rw [c10b0] | (simp only [ap, au]; rw [c10b0]) | skip)
         go_wp2_with (first | (go_at_call 181; (with_reducible refine (dy.calls (bt a0 x5_2) false _ A8.out).mono ?_); rintro e w' ⟨rfl, ⟨nd, rfl⟩⟩) | ((with_reducible refine bV (b := .append) (xs := #[.tmp 29, .tmp 37]) rfl ?_); at_builtin; refine Kd.R_append k90 (w0 := w) w.heap.size rfl (.tmp 29) (.tmp 37) 87 90 (.agg #[(.string ⟨#[]⟩), (.int .i64 0), (.int .i64 0)]) 32 rfl Tryz.underlying87 mX rfl aC u7_ u3 x3_1 (⟨a0.extract (x4_1 : Int).toNat (x5_2 : Int).toNat, x4_1, x5_2⟩ : S90) [.string (a0.extract (x4_1 : Int).toNat (x5_2 : Int).toNat), .int .i64 x4_1, .int .i64 x5_2] (fun _ => True) (fun _ => False) rfl rfl ?aP (fun _ hk => hk.elim) ?aF ?aO ?aB ?aS ?aL ?_; (case aP => exact j4 _ _ _ (⟨a0.extract (x4_1 : Int).toNat (x5_2 : Int).toNat, x4_1, x5_2⟩ : S90)); (case aB => exact fL); (case aF => exact jP); (case aO => exact nP); (case aS => exact fJ); (case aL => have := LMc14.out; omega); intro v398 w15 ho hb hg hat; rw [← Ny397.out] at ho; replace HB := am_ (hb); have HO399 := am_ (ho); clear HO_3 ho hb hg hat))
         go_roundg k2
         case measure => have := HK1.out; have := HK2.out; omega
         case rel => exact ⟨(y397), (x5_2), u1_, H', ⟨lR⟩, ⟨aR_ HO399.out⟩, ⟨bw_ HB⟩⟩
       ·replace H := ht_ H; have H' := am_ H; clear H; go_wp2_with (first | (go_at_call 181; (with_reducible refine (dy.calls (bt a0 x5_2) true _ A8.out).mono ?_); rintro e w' ⟨rfl, ⟨nd, rfl⟩⟩))
        go_roundg k2
        case measure => have := HK1.out; have := HK2.out; omega
        case rel => exact ⟨(wrap64 (x5_2 + 1)), u1_, H', ⟨lR⟩, ⟨aR_ HO_3.out⟩, ⟨bw_ HB⟩⟩
      ·rw [if_neg c5] at H; have c5b0 := decide_eq_false c5; clear c5; by_cases c16 : x5_2 = x4_1
       ·rw [if_pos c16] at H; have c16b0 := cV c16; have c16b1 := cW c16; clear c16; have H' := am_ H; clear H; go_wp2; go_roundg k2
        case measure => have := HK1.out; have := HK2.out; omega
        case rel => exact ⟨(x3_1), (wrap64 (x4_1 + 1)), u1_, H', ⟨lR⟩, ⟨aR_ HO_3.out⟩, ⟨bw_ HB⟩⟩
       ·rw [if_neg c16] at H; have c16b0 := cU c16; have c16b1 := cT c16; obtain ⟨c17b0, c17b1, H⟩ := ge_ H; obtain ⟨c18b0, c18b1, H⟩ := ge_ H; obtain ⟨c19b0, c19b1, H⟩ := ge_ H; obtain ⟨LMc20, H⟩ := gl_ H; generalize hy400 : ((x3_1 ++ [(⟨a0.extract (x4_1 : Int).toNat (x5_2 : Int).toNat, x4_1, x5_2⟩ : S90)]) : List (S90)) = y400 at H; have Ny400 := am_ hy400.symm; clear hy400; have H' := am_ H; clear H; go_wp2_with (first | ((with_reducible refine bV (b := .append) (xs := #[.tmp 29, .tmp 37]) rfl ?_); at_builtin; refine Kd.R_append k90 (w0 := w) w.heap.size rfl (.tmp 29) (.tmp 37) 87 90 (.agg #[(.string ⟨#[]⟩), (.int .i64 0), (.int .i64 0)]) 32 rfl Tryz.underlying87 mX rfl aC u7_ u3 x3_1 (⟨a0.extract (x4_1 : Int).toNat (x5_2 : Int).toNat, x4_1, x5_2⟩ : S90) [.string (a0.extract (x4_1 : Int).toNat (x5_2 : Int).toNat), .int .i64 x4_1, .int .i64 x5_2] (fun _ => True) (fun _ => False) rfl rfl ?aP (fun _ hk => hk.elim) ?aF ?aO ?aB ?aS ?aL ?_; (case aP => exact j4 _ _ _ (⟨a0.extract (x4_1 : Int).toNat (x5_2 : Int).toNat, x4_1, x5_2⟩ : S90)); (case aB => exact fL); (case aF => exact jP); (case aO => exact nP); (case aS => exact fJ); (case aL => have := LMc20.out; omega); intro v401 w21 ho hb hg hat; rw [← Ny400.out] at ho; replace HB := am_ (hb); have HO402 := am_ (ho); clear HO_3 ho hb hg hat))
        go_roundg k2
        case measure => have := HK1.out; have := HK2.out; omega
        case rel => exact ⟨(y400), (x5_2), u1_, H', ⟨lR⟩, ⟨aR_ HO402.out⟩, ⟨bw_ HB⟩⟩
   ·rw [if_neg c4] at H; have c4b0 := decide_eq_false c4; clear c4; obtain rfl := si_ H; go_wp2; go_ret
    exact ⟨_, u0_, aR_ HO_3.out, bw_ HB⟩
def cA.l0 : Nat → List ByteArray → List (S90) → Int → Option (List ByteArray)
 | 0, _, _, _ => none
 | k + 1, x3, x4, x5 => if x5 < (x4.length : Int) then (if 0 ≤ x5 then ((bB.f k ((eG x4 x5).f0)).bind fun t410 => (if x3.length < 8796093022208 then (cA.l0 k (x3 ++ [t410]) x4 (wrap64 (x5 + 1))) else (none))) else (none)) else (some x3)
def cA.f (k : Nat) (a0 : ByteArray) : Option (List ByteArray) := (a6.f k a0).bind fun t406 => (cA.l0 k (([] : List ByteArray)) t406 0)
theorem cA.calls (k : Nat) (a0 : ByteArray) (r : List ByteArray) (w : World) (h : cA.f k a0 = some r) :
  Calls Tryz.prog 141 #[.string a0] w fun e w' => ∃ v0_ : Value, e = .returned (v0_) ∧ Kd.R Kd.string 9 w' w.heap.size (fun _ => True) v0_ r ∧ Below w.heap.size w w' := by
 have HB := am_ (Below.refl w.heap.size w); have H := h; clear h; unfold cA.f at H
 obtain ⟨y403, hy403⟩ : ∃ y_ : List ByteArray, y_ = (([] : List ByteArray)) := ⟨_, rfl⟩; replace H : ((a6.f k a0).bind fun t406 => (cA.l0 k y403 t406 0)) = some r := by first | (rw [hy403]; with_reducible exact H) | (have H2_ := (Option.bind_some _ _).symm.trans H; rw [hy403]; with_reducible exact H2_) | (have H2_ := (Option.bind_some _ _).symm.trans H; with_reducible exact H2_) | with_reducible exact H | (rw [hy403]; exact H) | exact H
 have Ny403 := am_ hy403; clear hy403; obtain ⟨t406, A2, H⟩ := bi_ H; have H' := am_ H; clear H; go_enter Tryz.func141, Tryz.ntmps141
 go_wp2_with (first | ((with_reducible refine aE (N := 6) rfl ?_); refine Kd.R_lit Kd.string _ 9 ?hg (N := 6) ?hd (xs := ([] : List ByteArray)) (inner := []) (ok := fun _ => True) (okp := fun _ => True) ?hr ?hp (fun _ hk => hk) trivial (Below.refl _ _) (Nat.le_refl _) cM ?_; (case hd => rfl); (case hg => rfl); (case hr => exact u6_); (case hp => exact ii); intro v404 w3 ho4 hb hg_ hnew_; clear hg_ hnew_; (first | rw [← Ny403.out] at ho4 | (simp only [Int.reduceToNat] at ho4; rw [← Ny403.out] at ho4)); have HO405 := am_ (Kd.R_lower ho4 (al (bw_ HB))); replace HB := bs_ HB hb; clear hb ho4) | ((with_reducible refine gt_ 8 ?_); refine gf_ 8 Tryz.func161 (a6.calls k a0 t406 _ A2.out) ?_; rintro e w5 ⟨v407, rfl, ho0, hb⟩; refine ⟨_, rfl, ?_⟩; replace HO405 := am_ (Kd.R_below (aR_ HO405.out) hb); have HO408 := am_ (Kd.R_lower ho0 (al (bw_ HB))); replace HB := bs_ HB hb; (try clear hb); (try clear ho0)))
 go_loopg [3, 5] k (fun kq v3 v5 w' => ∃ (x3_1 : List ByteArray) (x5_1 : Int), v5 = .int .i64 x5_1 ∧ aa (cA.l0 kq x3_1 t406 x5_1 = some r) ∧ aa (kq ≤ k) ∧ aa (Kd.R Kd.string 9 w' w.heap.size (fun _ => True) v3 x3_1) ∧ aa (Kd.R k90 90 w' w.heap.size (fun _ => True) v407 t406) ∧ aa (Below w.heap.size w w'))
 case atStart => exact ⟨(y403), (0), u1_, H', ⟨Nat.le_refl _⟩, ⟨aR_ HO405.out⟩, ⟨aR_ HO408.out⟩, ⟨bw_ HB⟩⟩
 case round =>
  clear H'; obtain ⟨x3_1, x5_1, rfl, HA, HK1, HO_3, HO_4, HB⟩ := hrel; cases gk with
  | zero => exact absurd HA.out (by simp [cA.l0])
  | succ k1 =>
   have H := HA.out; clear HA; simp only [cA.l0] at H; by_cases c6 : x5_1 < (t406.length : Int)
   ·rw [if_pos c6] at H; have c6b0 := decide_eq_true c6; clear c6; obtain ⟨c7b0, H⟩ := gd_ H; obtain ⟨t410, A8, H⟩ := bi_ H; obtain ⟨LMc9, H⟩ := gl_ H; generalize hy411 : ((x3_1 ++ [t410]) : List ByteArray) = y411 at H; have Ny411 := am_ hy411.symm; clear hy411; have H' := am_ H; clear H; obtain ⟨Ao10, co10, eo10⟩ := Kd.R_slice HO_4.out; subst eo10; obtain ⟨ad409, e409, hx409_0, hx409_1, hx409_2⟩ := rR (Kd.R_reads' HO_4.out).2.2 x5_1 od_ od_; cases e409; obtain ⟨p409, q409⟩ := pt_ x5_1 t406.length; go_wp2_with (first | ((with_reducible refine gt_ 21 ?_); refine gB_ 21 Tryz.func47 (bB.calls k1 ((eG t406 x5_1).f0) t410 _ A8.out) ?_; intro w11 hb; replace HO_3 := am_ (Kd.R_below (aR_ HO_3.out) hb); replace HO_4 := am_ (Kd.R_below (aR_ HO_4.out) hb); replace HB := bs_ HB hb; (try clear hb)) | ((with_reducible refine bV (b := .append) (xs := #[.tmp 15, .tmp 22]) rfl ?_); at_builtin; refine Kd.R_append Kd.string (w0 := w) w.heap.size rfl (.tmp 15) (.tmp 22) 30 9 (.string ⟨#[]⟩) 16 rfl Tryz.underlying30 eX rfl aC u7_ u3 x3_1 t410 [.string t410] (fun _ => True) (fun _ => False) rfl rfl ?aP (fun _ hk => hk.elim) ?aF ?aO ?aB ?aS ?aL ?_; (case aP => exact rfl); (case aB => exact fL); (case aF => exact jP); (case aO => exact nP); (case aS => exact fJ); (case aL => have := LMc9.out; omega); intro v412 w12 ho hb hg hat; rw [← Ny411.out] at ho; replace HO_4 := am_ (Kd.R_over' (aR_ HO_4.out) (Kd.R_typed (aR_ HO_3.out)) aC hg); replace HB := am_ (hb); have HO413 := am_ (ho); clear HO_3 ho hb hg hat))
    go_roundg k1
    case measure => have := HK1.out; omega
    case rel => exact ⟨(y411), (wrap64 (x5_1 + 1)), u1_, H', ⟨dm⟩, ⟨aR_ HO413.out⟩, ⟨aR_ HO_4.out⟩, ⟨bw_ HB⟩⟩
   ·rw [if_neg c6] at H; have c6b0 := decide_eq_false c6; clear c6; obtain rfl := si_ H; obtain ⟨Ao13, co13, eo13⟩ := Kd.R_slice HO_4.out; subst eo13; go_wp2; go_ret
    exact ⟨_, u0_, aR_ HO_3.out, bw_ HB⟩
section
open Go Go.RowKit Go.Proofs.YtnjjdojonflckaaGreatDoor.Ent
section
open Go Go.RowKit Go.Proofs.YtnjjdojonflckaaGreatDoorW.PrintWords
abbrev kI : Kd Int := Kd.int .i64
theorem pg {w : World} {base : Nat} {ok : Nat → Prop} {v : Value} {ps : List S50} (h : Kd.S k50 50 w base ok v ps) (n : Nat) (p : S50) (hp : ps[n]? = some p) (hn : n + 1 = ps.length) :
  ∃ g cap u, ∃ oki : Nat → Prop, v = .slice (some ⟨g, 0, none⟩) ps.length cap ∧ g < w.heap.size ∧ base ≤ g ∧ ok g ∧ (∃ cells, w.heap[g]? = some (.cells cells 50 (0, 0))) ∧
   w.cell? ⟨g, n * 2, none⟩ = some (.int .i64 p.f0) ∧ w.cell? ⟨g, n * 2 + 1, none⟩ = some u ∧ w.frozen? ⟨g, n * 2 + 1, none⟩ = false ∧
   kI.R 3 w base oki u p.f1 ∧ (∀ k, oki k → ok k ∧ k < w.heap.size ∧ k ≠ g) ∧
   ∀ (w1 : World) (u1 : Value) (x : Int) (okp : Nat → Prop), w.grownBy w1 u.ownBlock → kI.R 3 w1 base okp u1 (p.f1 ++ [x]) → (∀ k, okp k → oki k ∨ w.heap.size ≤ k) →
    Kd.S k50 50 (w1.setCell ⟨g, n * 2 + 1, none⟩ u1) base (fun k => ok k ∨ w.heap.size ≤ k) v (ps.set n ⟨p.f0, p.f1 ++ [x]⟩) ∧ w1.grownBy (w1.setCell ⟨g, n * 2 + 1, none⟩ u1) (some g) := by
 obtain ⟨g, cap, rfl, hbase, hlt, hcells⟩ := Kd.S_form h u7_; have hokg : ok g := (Kd.S_R h).1 g (by simp [Value.ownBlock]); have hA : Kd.S k50 50 w base (fun k => (ok k ∨ w.heap.size ≤ k) ∧ ¬ (w.heap.size ≤ k)) (.slice (some ⟨g, 0, none⟩) ps.length cap) ps :=
  Kd.S_mono (Kd.S_bound h) (fun k hk => ⟨.inl hk.1, by have := hk.2.2.1; omega⟩)
 obtain ⟨oki, c, hcl, hM, hcc, hfr, hoki, hH⟩ := Kd.S_elem hA z50 (n : Int) u7_ u7_; have hget : ps.getD ((n : Int)).toNat z50 = p := by simp [List.getD_eq_getElem?_getD, hp]
 rw [hget] at hM; obtain ⟨u, rfl, hu⟩ := gW hM; have e2 : k50.sz = 2 := rfl; have hc0 := hcc 0 _ rfl; have hc1 := hcc 1 _ rfl; have hf1 := hfr 1; simp only [e2, Int.toNat_natCast, Nat.add_zero] at hc0 hc1 hf1; refine ⟨g, cap, u, oki, rfl, hlt, hbase, hokg, hcells, hc0, hc1, hf1, hu, fun k hk => ⟨(hoki k hk).1.1.elim id (fun h2 => absurd h2 (hoki k hk).1.2), by have := (hoki k hk).1.2; omega, (hoki k hk).2⟩, fun w1 u1 x okp hg hR hok => ?_⟩; have hH1 := Kd.H_grown hH hg (fun k hk => hu.1 k hk); have hM1 := iL w1 base okp (⟨p.f0, p.f1 ++ [x]⟩ : S50) hR; have hz := Kd.S_seg (okg := fun k => w.heap.size ≤ k) hH1 u7_ u7_ (seg := [u1]) (j := 1) (by show 1 + 1 ≤ 2; omega) (x' := (⟨p.f0, p.f1 ++ [x]⟩ : S50)) (okp := okp) hM1 hok (fun k hk => ⟨.inr hk, fun he => by subst he; omega⟩); simp only [e2, Int.toNat_natCast] at hz; exact hz
end
section
open Go Go.RowKit Go.Proofs.YtnjjdojonflckaaGreatDoorW.PrintWords
abbrev Pst := S50
def fh (ps : List Pst) (id x : Int) : List Pst :=
 match ps.getLast? with
 | none => [⟨id, [x]⟩]
 | some q => if q.f0 = id then ps.set (ps.length - 1) ⟨q.f0, q.f1 ++ [x]⟩ else ps ++ [⟨id, [x]⟩]
def stepG : List (Pl × List Pst) → Pl → Int → Int → List (Pl × List Pst)
 | [], p, id, x => [(p, fh [] id x)]
 | g :: G, p, id, x => if g.1 = p then (p, fh g.2 id x) :: G else g :: stepG G p id x
theorem lV : ∀ (G : List (Pl × List Pst)) (p : Pl) (id x : Int), (∀ g ∈ G, g.1 ≠ p) → stepG G p id x = G ++ [(p, fh [] id x)]
 | [], _, _, _, _ => rfl
 | g :: G, p, id, x, h => by
  rw [stepG, if_neg (h g cM), lV G p id x (fun y hy => h y (List.mem_cons_of_mem _ hy))]; rfl
theorem mb : ∀ (G : List (Pl × List Pst)) (p : Pl) (id x : Int) (j : Nat) (g : Pl × List Pst), (G.map (·.1)).Nodup → G[j]? = some g → g.1 = p → stepG G p id x = G.set j (p, fh g.2 id x)
 | [], _, _, _, j, g, _, h, _ => by simp at h
 | y :: G, p, id, x, 0, g, _, h, hp => by
  obtain rfl : y = g := by simpa using h
  rw [stepG, if_pos hp]; rfl
 | y :: G, p, id, x, j + 1, g, hn, h, hp => by
  have h' : G[j]? = some g := by simpa using h
  rw [List.map_cons, List.nodup_cons] at hn; have hne : y.1 ≠ p := fun e => hn.1 (by rw [e, ← hp]; exact List.mem_map.2 ⟨g, List.mem_of_getElem? h', rfl⟩)
  rw [stepG, if_neg hne, mb G p id x j g hn.2 h' hp]; rfl
theorem qc (G : List (Pl × List Pst)) (p : Pl) (id x : Int) (j : Nat) (ps : List Pst) (hn : (G.map (·.1)).Nodup) (h : (j = G.length ∧ ps = [] ∧ ∀ g ∈ G, g.1 ≠ p) ∨ ∃ g, G[j]? = some g ∧ g.1 = p ∧ g.2 = ps) : nC G j (p, fh ps id x) = stepG G p id x := by
 rcases h with ⟨rfl, rfl, h⟩ | ⟨g, hg, hp, rfl⟩
 ·unfold nC
  rw [if_neg u7_, lV G p id x h]
 ·unfold nC
  rw [if_pos (List.getElem?_eq_some_iff.1 hg).1, mb G p id x j g hn hg hp]
def LenG (c : Nat) (G : List (Pl × List Pst)) : Prop := G.length ≤ c ∧ ∀ g ∈ G, g.2.length ≤ c ∧ ∀ q ∈ g.2, q.f1.length ≤ c
def LenP (c : Nat) (ps : List Pst) : Prop := ps.length ≤ c ∧ ∀ q ∈ ps, q.f1.length ≤ c
theorem LenP.step {c : Nat} {ps : List Pst} (h : LenP c ps) (id x : Int) : LenP (c + 1) (fh ps id x) := by
 have hm : LenP (c + 1) ps := ⟨by have := h.1; omega, fun q hq => by have := h.2 q hq; omega⟩; unfold fh
 cases hl : ps.getLast? with
 | none => exact ⟨cM, fun q hq => by rw [List.mem_singleton.1 hq]; simp⟩
 | some q =>
  have hq : q ∈ ps := List.mem_of_getLast? hl; have h2 := h.2 q hq; simp only; split
  ·refine ⟨by rw [List.length_set]; exact hm.1, fun y hy => ?_⟩; rcases List.mem_or_eq_of_mem_set hy with hy | hy
   ·exact hm.2 y hy
   ·rw [hy]; simp; omega
  ·refine ⟨by have := h.1; simp; omega, fun y hy => ?_⟩; rcases List.mem_append.1 hy with hy | hy
   ·exact hm.2 y hy
   ·rw [List.mem_singleton.1 hy]; simp
theorem LenG.at {c : Nat} {G : List (Pl × List Pst)} (h : LenG c G) {p : Pl} {j : Nat} {ps : List Pst} (hj : (j = G.length ∧ ps = [] ∧ ∀ g ∈ G, g.1 ≠ p) ∨ ∃ g, G[j]? = some g ∧ g.1 = p ∧ g.2 = ps) : LenP c ps := by
 rcases hj with ⟨_, rfl, _⟩ | ⟨g, hg, _, rfl⟩
 ·exact ⟨Nat.zero_le _, cM⟩
 ·exact h.2 g (List.mem_of_getElem? hg)
theorem LenG.step {c : Nat} : ∀ {G : List (Pl × List Pst)} (_h : ∀ g ∈ G, LenP c g.2) (p : Pl) (id x : Int), (stepG G p id x).length ≤ G.length + 1 ∧ ∀ g ∈ stepG G p id x, LenP (c + 1) g.2
 | [], _, p, id, x => ⟨by simp [stepG], fun g hg => by
   rw [stepG, List.mem_singleton] at hg; rw [hg]; exact LenP.step (c := c) (ps := []) ⟨Nat.zero_le _, cM⟩ id x⟩
 | y :: G, h, p, id, x => by
  have hw : ∀ g ∈ G, LenP (c + 1) g.2 := fun g hg => by have := h g (List.mem_cons_of_mem _ hg); exact ⟨by have := this.1; omega, fun q hq => by have := this.2 q hq; omega⟩
  have hy := h y cM; rw [stepG]; split
  ·refine ⟨cM, fun g hg => ?_⟩; rcases List.mem_cons.1 hg with hg | hg
   ·rw [hg]; exact LenP.step hy id x
   ·exact hw g hg
  ·have ih := LenG.step (c := c) (G := G) (fun g hg => h g (List.mem_cons_of_mem _ hg)) p id x; refine ⟨by simp; exact ih.1, fun g hg => ?_⟩; rcases List.mem_cons.1 hg with hg | hg
   ·rw [hg]; exact ⟨by have := hy.1; omega, fun q hq => by have := hy.2 q hq; omega⟩
   ·exact ih.2 g hg
theorem LenG.next {c : Nat} {G : List (Pl × List Pst)} (h : LenG c G) (p : Pl) (id x : Int) : LenG (c + 1) (stepG G p id x) := by
 have := LenG.step (c := c) (G := G) h.2 p id x; exact ⟨by have := this.1; have := h.1; omega, this.2⟩
def fR (id : Int) (name : ByteArray) : List ByteArray → Int → List (Pl × List Pst) → List (Pl × List Pst)
 | [], _, G => G
 | t :: ts, x, G => fR id name ts (x + 1) (if t.size = 0 then G else stepG G (name, t) id x)
end
section
open Go Go.RowKit Go.Proofs.YtnjjdojonflckaaGreatDoorW.PrintWords Go.Proofs.YtnjjdojonflckaaGreatDoorW.PrintLast Go.Proofs.YtnjjdojonflckaaGreatDoorW.PrintMore Go.Proofs.YtnjjdojonflckaaGreatDoor.Ent
abbrev kPs : Kd (List S50) := sliceS 50 k50
def kE : Kd S76 := Kd.iso (Kd.pair Kd.string (Kd.pair Kd.string kPs)) (fun x : S76 => (x.f0, x.f1, x.f2))
theorem nY {w : World} {base : Nat} {ok : Nat → Prop} {x : S76} {cs : List Value} (h : kE.M w base ok x cs) : ∃ v2, cs = [.string x.f0, .string x.f1, v2] ∧ Kd.S k50 50 w base ok v2 x.f2 := by
 obtain ⟨_, _, rfl, rfl, ⟨_, _, rfl, rfl, ⟨v2, rfl, g⟩⟩⟩ := h; exact ⟨v2, rfl, g⟩
theorem oJ (w : World) (base : Nat) (ok : Nat → Prop) (x : S76) {v2 : Value} (g2 : Kd.S k50 50 w base ok v2 x.f2) : kE.M w base ok x [.string x.f0, .string x.f1, v2] := ⟨[.string x.f0], [.string x.f1, v2], rfl, rfl, ⟨[.string x.f1], [v2], rfl, rfl, ⟨v2, rfl, g2⟩⟩⟩
theorem kE_k76 {w : World} {base : Nat} {ok : Nat → Prop} {x : S76} {cs : List Value} (h : kE.M w base ok x cs) : k76.M w base ok x cs := by
 obtain ⟨v2, rfl, g⟩ := nY h; exact j3 w base ok x (Kd.S_R g)
theorem pf {w : World} {base : Nat} {ok : Nat → Prop} {v : Value} {xs : List S76} (h : Kd.S kE 76 w base ok v xs) : Kd.S k76 76 w base ok v xs := by
 obtain ⟨f, h⟩ := h; exact ⟨f, Kd.R_imp (d := Kd.tag f kE) (d' := Kd.tag f k76) rfl (fun _ _ _ _ _ hM => kE_k76 hM) h⟩
theorem qo (a1 a2 : ByteArray) (a3 a4 : Int) (w1 : World) (b : Nat) (hb : b ≤ w1.heap.size) : kE.M (((w1.alloc (.cells #[.int .i64 a4] 3)).alloc (.cells #[.int .i64 a3, .slice (some ⟨w1.heap.size, 0, none⟩) 1 1] 50)).alloc (.cells #[.string a1, .string a2, .slice (some ⟨w1.heap.size + 1, 0, none⟩) 1 1] 76)).drew b (fun k => k = w1.heap.size ∨ k = w1.heap.size + 1) ⟨a1, a2, [⟨a3, [a4]⟩]⟩ [.string a1, .string a2, .slice (some ⟨w1.heap.size + 1, 0, none⟩) 1 1] := by
 have hk : ∀ (o o' o'' : Obj), ((((w1.alloc o).alloc o').alloc o'').drew).heap.size = w1.heap.size + 3 := fun o o' o'' => by simp
 refine oJ _ _ _ _ (v2 := .slice (some ⟨w1.heap.size + 1, 0, none⟩) 1 1) ?_; refine Kd.S_drew (Kd.S_alloc ?_ _); have hI : (Kd.int .i64).R 3 (w1.alloc (.cells #[.int .i64 a4] 3)) b (fun k => k = w1.heap.size) (.slice (some ⟨w1.heap.size, 0, none⟩) 1 1) [a4] := by
  have h := kG (enc := Value.int .i64) w1 b 3 [a4] hb cM; exact Kd.R_of_own h (fun k hk => by simpa [Value.ownBlock] using hk.symm)
 have hrep := Kd.reps_tag (d := k50) (w := w1.alloc (.cells #[.int .i64 a4] 3)) (base := b) (ok := fun k => k = w1.heap.size) (xs := [⟨a3, [a4]⟩]) (inner := [.int .i64 a3, .slice (some ⟨w1.heap.size, 0, none⟩) 1 1]) (fun j k => j = 0 ∧ k = w1.heap.size) (fun i j k h1 h2 => h1.1.trans h2.1.symm) (fun j k h => h.2) rfl (fun j x hx => by
  cases j with
  | zero =>
   obtain rfl : (⟨a3, [a4]⟩ : S50) = x := by simpa using hx
   exact iL _ _ _ _ (Kd.R_mono hI (fun k hk => ⟨rfl, hk⟩))
  | succ j => simp at hx)
 obtain ⟨f, hf⟩ := hrep; have hown := World.ownsRow_lit (base := b) (e := 50) (size := 2) (w1.alloc (.cells #[.int .i64 a4] 3)) #[.int .i64 a3, .slice (some ⟨w1.heap.size, 0, none⟩) 1 1] 1 (by simp; omega) (by simp [maxLen]) cM; have hsz : (w1.alloc (.cells #[.int .i64 a4] 3)).heap.size = w1.heap.size + 1 := by simp
 rw [hsz] at hown; refine ⟨f, fun k hk => ?_, _, hown, ?_⟩
 ·have : w1.heap.size + 1 = k := by simpa [Value.ownBlock] using hk
  omega
 ·refine hf.imp_ (fun p c hp => (Kd.tag f k50).M_mono (fun k hk => ?_) ((Kd.tag f k50).M_move (w1 := (w1.alloc (.cells #[.int .i64 a4] 3)).alloc (.cells #[.int .i64 a3, .slice (some ⟨w1.heap.size, 0, none⟩) 1 1] 50)) (fun k hk => ?_) hp))
  ·refine ⟨.inl hk, fun he => ?_⟩; have : k = w1.heap.size + 1 := by simpa [Value.ownBlock] using he
   omega
  ·exact Below.heap_alloc _ _ k (by rw [hsz]; omega)
def wide (ps : List S50) : Bool := decide (ps.length < 1000000) && ps.all (fun p => decide (p.f1.length < 1000000))
def co.f (k : Nat) (l : List S76) (a1 a2 : ByteArray) (a3 a4 : Int) : Option (List S76) :=
 (bC.f k l a1 a2).bind fun r => if r.2 = true then
   (match l[r.1.toNat]? with
    | none => none
    | some e => if 0 ≤ r.1 ∧ e.f2 ≠ [] ∧ wide e.f2 = true then some (l.set r.1.toNat ⟨e.f0, e.f1, fh e.f2 a3 a4⟩) else none)
  else if 0 ≤ r.1 ∧ r.1 ≤ l.length ∧ l.length < 1000000 then some (l.take r.1.toNat ++ [⟨a1, a2, [⟨a3, [a4]⟩]⟩] ++ l.drop r.1.toNat) else none
def Cl (B : Nat) (w : World) (v : Value) (rows : List (List Value)) : Prop := (Kd.raw 3).R 76 w B (fun _ => True) v rows ∧ ∃ b, v.ownBlock = some b ∧ b < w.heap.size
theorem Cl.below {B : Nat} {w w1 : World} {v : Value} {rows : List (List Value)} (h : Cl B w v rows) (hb : Below w.heap.size w w1) : Cl B w1 v rows := by
 obtain ⟨h1, b, h2, h3⟩ := h; exact ⟨Kd.R_below h1 hb, b, h2, Nat.lt_of_lt_of_le h3 hb.size⟩
theorem jm {w w2 w3 : World} (h : Below w.heap.size w w2) (k : Below w2.heap.size w2 w3) : Below w.heap.size w w3 := h.trans (k.mono h.size)
theorem one3 (a b : ByteArray) (A : Option Addr) (n c : Nat) : ∀ u ∈ [Value.string a, .string b, .slice A n c], u.oneCell' = true := by
 intro u hu; simp only [List.mem_cons, List.not_mem_nil, or_false] at hu; rcases hu with rfl | rfl | rfl <;> rfl
theorem je {w : World} {base : Nat} {ok : Nat → Prop} {c : List Value} (h : (Kd.raw 3).M w base ok c c) : Reps ((Kd.raw 3).M w base ok) 3 [c] c := by
 refine ⟨by have := h.2.1; simpa using this, fun j p hj => ?_⟩; cases j with
 | zero =>
  obtain rfl : c = p := by simpa using hj
  have hl : c.length = 3 := h.2.1; rw [Nat.zero_mul, List.drop_zero, List.take_of_length_le u7_]; exact h
 | succ j => simp at hj
section
variable {ops : Array Oper} {o : Oper} {a : Act} {Q : Exit → Act → World → Prop} {Kc : Act → World → Prop} {w0 W : World} {B : Nat}
theorem kj (hw : Region.wanted o (yielded ops a.tmps) = true) {N : Tmp} (hd : o.dst = some N) {rows : List (List Value)} {inner : List Value}
  (hrun : (execOp a.eval o).run Tryz.prog W = .ok (.value (.slice (some ⟨W.heap.size, 0, none⟩) rows.length rows.length)) (W.alloc (.cells inner.toArray 76)))
  (hrep : Reps ((Kd.raw 3).M W B (fun _ => True)) 3 rows inner) (HB : Below B w0 W) (hbase : B ≤ W.heap.size) (hm : rows.length ≤ 9223372036854775807)
  (h : ∀ v1 w1, Cl B w1 v1 rows → Below B w0 w1 → Below W.heap.size W w1 → (∀ v r, Cl B W v r → v.ownBlock ≠ v1.ownBlock) → Kc (a.put o.dst v1) w1) : if Region.wanted o (yielded ops a.tmps) = true then Oper.wp Tryz.prog o a W Kc Q else Kc (a.put o.dst undef) W := by
 refine Kd.R_lit_step (Kd.raw 3) (w0 := w0) B 76 hw hd (ok := fun _ => True) (okp := fun _ => True) hrun hrep (fun _ hk => hk) trivial HB hbase hm ?_; rintro v1 w1 ho hb hg ⟨b, hv, hge⟩; refine h v1 w1 ⟨ho, b, hv, Kd.R_lt ho b hv⟩ hb ⟨hg.os, hg.tape, hg.output, hg.size, fun k hk => hg.block k hk cM⟩ ?_; rintro v r ⟨_, b', hv', hlt⟩ he; rw [hv, hv'] at he; injection he with he
 omega
theorem lc (hw : Region.wanted o (yielded ops a.tmps) = true) (s x : Operand) (ho : o.op = .call { callee := .builtin .append, args := #[s, x], argTypes := #[25, 25] }) {v : Value} {xs ys : List (List Value)} {A : Option Addr} {m c : Nat} (hs : a.eval s = v) (hx : a.eval x = .slice A m c)
  (HO : Cl B W v xs) (HR : (Kd.raw 3).C W A m ys) (HB : Below B w0 W) (hbase : B ≤ W.heap.size) (hl : xs.length + m ≤ 3000000)
  (h : ∀ v1 w1, Cl B w1 v1 (xs ++ ys) → Below B w0 w1 → (∀ u r, Cl B W u r → u.ownBlock ≠ v.ownBlock → Cl B w1 u r ∧ u.ownBlock ≠ v1.ownBlock) → Kc (a.put o.dst v1) w1) : if Region.wanted o (yielded ops a.tmps) = true then Oper.wp Tryz.prog o a W Kc Q else Kc (a.put o.dst undef) W := by
 obtain ⟨HO, b0, hv0, hlt0⟩ := HO; refine Kd.R_append_rows_step (Kd.raw 3) (Rr := (Kd.raw 3).K W) (w0 := w0) B hw s x 25 76 (.agg #[(.string ⟨#[]⟩), (.string ⟨#[]⟩), (.slice none 0 0)]) 56 ho Tryz.underlying25 jc rfl aC u7_ v xs ys A m c (fun _ => True) (fun _ => False) hs hx HO HR (fun _ _ h => h) (fun _ h => h.elim) (fun _ _ => trivial) HB hbase u7_ ?_; intro v1 w1 ho hb hg hat; have hv1 : ∃ b, v1.ownBlock = some b := by
  rcases hat with hat | ⟨b, hb, _⟩
  ·exact ⟨b0, hat.trans hv0⟩
  ·exact ⟨b, hb⟩
 obtain ⟨b1, hv1⟩ := hv1; refine h v1 w1 ⟨ho, b1, hv1, Kd.R_lt ho b1 hv1⟩ hb ?_; rintro u r ⟨hu, b, hub, hlt⟩ hne; refine ⟨⟨Kd.R_grown1 hu rfl hg (Ne.symm hne), b, hub, Nat.lt_of_lt_of_le hlt hg.size⟩, fun he => ?_⟩; rcases hat with hat | ⟨b2, hb2, hge⟩
 ·exact hne (he.trans hat)
 ·rw [hub, hb2] at he; injection he with he
  omega
end
theorem re {i N1 : Nat} {u v : Value} {l : List S76} {e : S76} {c : List Value} {rows : List (List Value)} {f : Nat → Nat} {B : Nat} {w w1 w2 w' : World} {ok : Nat → Prop}
  (hM : ∀ (j : Nat) (x : S76) (c : List Value), l[j]? = some x → rows[j]? = some c → kE.M w B (fun k => (ok k ∧ some k ≠ u.ownBlock) ∧ f k = j) x c) (hrl : rows.length = l.length) (hi : i ≤ l.length)
  (hP : kE.M w2 B (fun k => k = N1 ∨ k = N1 + 1) e c) (hR : Cl w2.heap.size w' v ([] ++ rows.take i ++ [c] ++ rows.drop i)) (h12 : Below w.heap.size w w2) (h1 : Below w.heap.size w w1) (hw1 : Below w1.heap.size w1 w2) (hX : Below w2.heap.size w2 w') (hB : B ≤ w.heap.size) (hN : w1.heap.size ≤ N1 ∧ N1 + 1 < w2.heap.size) :
  Kd.S kE 76 w' B (fun k_ => ok k_ ∨ w.heap.size ≤ k_) v (l.take i ++ [e] ++ l.drop i) := by
 obtain ⟨hR, b, hb, hlt⟩ := hR; have hb2 : w2.heap.size ≤ b := Kd.R_base hR b hb; have hs1 := h1.size; have hs2 := hw1.size; have hs3 := h12.size; have hne : ∀ k, k < w2.heap.size → some k ≠ v.ownBlock := fun k hk he => by
  rw [hb] at he; injection he with he
  omega
 have hbl : Below w.heap.size w w' := jm h12 hX; have hOld : ∀ (j : Nat) (x : S76) (c : List Value), l[j]? = some x → rows[j]? = some c → kE.M w' B (fun k => ((ok k ∧ some k ≠ u.ownBlock) ∧ f k = j) ∧ k < w.heap.size) x c := fun j x c hx hc =>
  kE.M_mono (fun k hk => ⟨hk.1, hk.2.2.1⟩) (kE.M_move (w1 := w') (fun k hk => hbl.block k hk.2.2.1) (kE.M_bound (hM j x c hx hc)))
 have hl1 : (rows.take i).length = i := by rw [List.length_take]; omega
 have hl2 : (l.take i).length = i := by rw [List.length_take]; omega
 have hl3 : (rows.drop i).length = l.length - i := by rw [List.length_drop]; omega
 refine S_join (okr := fun _ => True) (fun j k => if j < i then ((ok k ∧ some k ≠ u.ownBlock) ∧ f k = j) ∧ k < w.heap.size else if j = i then (k = N1 ∨ k = N1 + 1) else ((ok k ∧ some k ≠ u.ownBlock) ∧ f k = j - 1) ∧ k < w.heap.size) (Kd.R_lower hR u7_) ?_ (fun k hk => ?_) (fun j x c' hx hc => ?_) (fun j j' k hk hk' => ?_) (fun j k hk => ?_)
 ·simp only [List.length_append, List.length_nil, List.length_cons, hl1, hl2, hl3, List.length_drop]; omega
 ·rw [hb] at hk; injection hk with hk
  right; omega
 ·rw [List.append_assoc] at hx; rw [List.nil_append, List.append_assoc] at hc; rcases Nat.lt_trichotomy j i with h | h | h
  ·rw [List.getElem?_append_left u7_, List.getElem?_take, if_pos h] at hx; rw [List.getElem?_append_left u7_, List.getElem?_take, if_pos h] at hc; simp only [if_pos h]; exact hOld j x c' hx hc
  ·subst h; rw [List.getElem?_append_right u7_, hl2, Nat.sub_self] at hx; rw [List.getElem?_append_right u7_, hl1, Nat.sub_self] at hc; obtain rfl : e = x := by simpa using hx
   obtain rfl : c = c' := by simpa using hc
   simp only [Nat.lt_irrefl, if_false, if_true]; exact kE.M_mono (fun k hk => hk.1) (kE.M_move (w1 := w') (fun k hk => hX.block k hk.2.2.1) (kE.M_bound hP))
  ·rw [List.getElem?_append_right u7_, hl2] at hx; rw [List.getElem?_append_right u7_, hl1] at hc; obtain ⟨m, hm⟩ : ∃ m, j - i = m + 1 := ⟨j - i - 1, u7_⟩; rw [hm, List.singleton_append, List.getElem?_cons_succ, List.getElem?_drop] at hx hc; have he : i + m = j - 1 := by omega
   rw [he] at hx hc; simp only [if_neg (show ¬ j < i by omega), if_neg (show ¬ j = i by omega)]; exact hOld (j - 1) x c' hx hc
 ·split at hk <;> split at hk'
  ·exact hk.1.2.symm.trans hk'.1.2
  ·split at hk'
   ·have := hk.2; omega
   ·have := hk.1.2.symm.trans hk'.1.2; omega
  ·split at hk
   ·have := hk'.2; omega
   ·have := hk.1.2.symm.trans hk'.1.2; omega
  ·split at hk <;> split at hk'
   ·omega
   ·have := hk'.2; omega
   ·have := hk.2; omega
   ·have := hk.1.2.symm.trans hk'.1.2; omega
 ·split at hk
  ·exact ⟨.inl hk.1.1.1, hne k (by have := hk.2; omega)⟩
  ·split at hk
   ·exact ⟨.inr u7_, hne k u7_⟩
   ·exact ⟨.inl hk.1.1.1, hne k (by have := hk.2; omega)⟩
def co.T4 : Bool × List (List Nat × List Nat) := (true, [([], []), ([], []), ([], []), ([1, 2], [1, 2]), ([0, 3], [0, 3]), ([], []), ([5], [5]), ([4, 6, 4], [4, 6]), ([], []), ([], []), ([8, 9], [8, 9]), ([7, 10, 7], [7, 10]), ([11, 11, 0, 1, 2, 3, 4, 5, 6, 7, 8, 9, 10, 11], [11])])
def co.B4 : List Nat := [0, 0, 0, 6, 15, 0, 32, 127, 0, 0, 768, 2047, 4095]
theorem co.tab4 : dw .any (fm Tryz.f142 4) = co.T4 := by kernel_rfl
theorem co.bits4 : de co.T4.2 co.B4 = true := by kernel_rfl
theorem qQ (i : Nat) (u : Value) (l : List S76) (a1 a2 : ByteArray) (a3 a4 : Int) (k : Nat) (w0 w : World) (ok : Nat → Prop) (hB : Below w0.heap.size w0 w) (hS : Kd.S kE 76 w w0.heap.size ok u l) (hA : bC.f k l a1 a2 = some ((i : Int), false)) (hi : i ≤ l.length) (hl : l.length < 1000000) (r : List S76) (hr : l.take i ++ [⟨a1, a2, [⟨a3, [a4]⟩]⟩] ++ l.drop i = r) :
  Calls Tryz.prog 142 #[u, .string a1, .string a2, .int .i64 a3, .int .i64 a4] w fun e w' => ∃ v : Value, e = .returned v ∧ Kd.S kE 76 w' w0.heap.size (fun k_ => ok k_ ∨ w.heap.size ≤ k_) v r ∧ Below w0.heap.size w0 w' ∧ Kept w w' ok := by
 obtain ⟨A, c, rfl, hlc, hC⟩ := Kd.S_reads (pf hS); obtain ⟨rows, f, hrl, hraw, hown, hM⟩ := r9 hS; have hrc := (Kd.R_reads' hraw).2.2; have hcut1 := n4 (P := Tryz.prog) 25 76 .i64 Tryz.underlying25 (info_parts jc).choose_spec.1 A l.length c (i : Int) u7_ u7_ hlc; have hcut2 := kB (P := Tryz.prog) 25 76 .i64 Tryz.underlying25 (info_parts jc).choose_spec.1 3 (info_parts jc).choose_spec.2.2.1 A l.length c (i : Int) u7_ u7_; simp only [Int.toNat_natCast] at hcut1 hcut2; obtain ⟨A2, hA2⟩ : ∃ A2, A2 = (if c = i then A else A.map (·.add (i * 3))) := ⟨_, rfl⟩; rw [← hA2] at hcut2; have hn1 : (rows.take i).length = i := by rw [List.length_take]; omega
 have hn2 : (rows.drop i).length = l.length - i := by rw [List.length_drop]; omega
 have hc1 := Kd.C_take hrc (m := i) u7_; have hc2 : (Kd.raw 3).C w A2 (rows.drop i).length (rows.drop i) := by rw [hA2]; exact Kd.C_drop hrc (m := i) (c := c) u7_ u7_
 rw [hn1] at hc1; rw [hn2] at hc2; have HC1 := am_ hc1; have HC2 := am_ hc2; have HN1 := am_ hn1; have HN2 := am_ hn2; have HRR := am_ hr; clear hr; have HM := am_ hM; have HOWN := am_ hown; have HRL := am_ hrl; have HB0 := am_ hB; have HA := am_ hA; have HI := am_ hi; have HL := am_ hl; clear hS hB hA hM hown hrl hrc hraw hA2 hi hl hn1 hn2 hc1 hc2; go_enter Tryz.func142, Tryz.ntmps142
 go_wp2_with (first | (go_at_call 95; refine (bC.calls k _ _ _ _ _ _ _ _ hC hlc HA.out).mono ?_; rintro e w1 ⟨rfl, hd⟩; have HB1 := am_ hd.below; clear hd))
 clear hC hlc; refine dd (n := 13) (S := fun w' => w'.cell? ⟨w1.heap.size + 1 + 1, 0, none⟩ = some (.string a1) ∧ w'.cell? ⟨w1.heap.size + 1 + 1, 1, none⟩ = some (.string a2) ∧ w'.cell? ⟨w1.heap.size + 1 + 1, 2, none⟩ = some (.slice (some ⟨w1.heap.size + 1, 0, none⟩) 1 1)) (ds := []) (bm_ 13 0) bY rfl rfl ⟨by go_simp, by go_simp, by go_simp⟩ (fun hHeld => ?_); refine bH co.tab4 co.bits4 (fun HT_ HW_ => ?_); generalize hW : (((w1.alloc _).alloc _).alloc _).drew = w2 at hHeld ⊢; have HZ := am_ (show w2.heap.size = w1.heap.size + 3 from by rw [← hW]; simp); have HBW := am_ (show Below w1.heap.size w1 w2 from by rw [← hW]; exact fD (bw (bw (bw (Below.refl _ _) _) _) _)); have HW1 := am_ (jm HB1.out HBW.out); have HP := am_ (show kE.M w2 w0.heap.size (fun k => k = w1.heap.size ∨ k = w1.heap.size + 1) ⟨a1, a2, [⟨a3, [a4]⟩]⟩ [.string a1, .string a2, .slice (some ⟨w1.heap.size + 1, 0, none⟩) 1 1] from by rw [← hW]; exact qo a1 a2 a3 a4 w1 w0.heap.size (Nat.le_trans HB0.out.size HB1.out.size)); clear hW; have HX := am_ (Below.refl w2.heap.size w2); have HS := am_ hHeld; refine pv_ 1 34 ?_; refine pv_ 2 35 ?_; refine pv_ 3 36 ?_; refine tv_ 5 38 ?_; refine pv_ 8 41 ?_; refine pv_ 9 42 ?_; refine pv_ 10 43 ?_; refine rA (σ := Value × Value × Value) 3 (bm_ 13 1919) (fun s_ => [(33, s_.1), (37, s_.2.1), (39, s_.2.2)]) (fun s_ w' => Cl w2.heap.size w' s_.2.1 ([] ++ rows.take i) ∧ Cl w2.heap.size w' s_.2.2 [[.string a1, .string a2, .slice (some ⟨w1.heap.size + 1, 0, none⟩) 1 1]] ∧ s_.2.2.ownBlock ≠ s_.2.1.ownBlock ∧ Below w2.heap.size w2 w' ∧ (w'.cell? ⟨w1.heap.size + 1 + 1, 0, none⟩ = some (.string a1) ∧ w'.cell? ⟨w1.heap.size + 1 + 1, 1, none⟩ = some (.string a2) ∧ w'.cell? ⟨w1.heap.size + 1 + 1, 2, none⟩ = some (.slice (some ⟨w1.heap.size + 1, 0, none⟩) 1 1))) ?_ ?_; rotate_left
 ·intro hCont; clear hHeld; refine two_ (i := 0) (j := 6) (Ni := some 33) (Nj := some 39) (bm_ 13 1839) (bm_ 13 1902) rfl rfl rfl rfl (iV HT_.out bY) aC aC (fun K hK => ?_) (fun K hK => ?_)
  ·skip
   refine kj (w0 := w2) (B := w2.heap.size) cO (N := 33) ?hd (rows := []) (inner := []) ?hr ?hp HX.out HX.out.size cM ?_; (case hd => rfl); (case hr => exact u6_); (case hp => exact Reps.none _ _); intro v33 w33 ho hb hst hap; have R33 := am_ ho; clear HX; have HX := am_ hb; clear ho hb hst hap; refine hK.out _ _ ⟨ah HX.out HS.out.1, ah HX.out HS.out.2.1, ah HX.out HS.out.2.2⟩ (fun hHeld => ?_); clear hK K; refine nm_ ?_; clear hHeld; refine two_ (i := 4) (j := 6) (Ni := some 37) (Nj := some 39) (bm_ 13 1855) (bm_ 13 1903) rfl rfl rfl rfl (iV HT_.out bY) aC aC (fun K hK => ?_) (fun K hK => ?_)
   ·skip
    refine lc (w0 := w2) (B := w2.heap.size) cO (.tmp 33) (.tmp 36) rfl rfl rfl R33.out (Kd.C_below HC1.out (jm HW1.out HX.out)) HX.out HX.out.size (by have := HI.out; have := HL.out; simp; omega) ?_; intro v37 w37 ho hb hap; have R37 := am_ ho; clear HX; have HX := am_ hb; clear ho hb hap; refine hK.out _ _ ⟨ah HX.out HS.out.1, ah HX.out HS.out.2.1, ah HX.out HS.out.2.2⟩ (fun hHeld => ?_); clear hK K; refine nm_ ?_; clear hHeld; refine ov_ 6 39 (fun K hK => ?_); refine kj (w0 := w2) (B := w2.heap.size) cO (N := 39) ?hd (rows := [[.string a1, .string a2, .slice (some ⟨w1.heap.size + 1, 0, none⟩) 1 1]]) (inner := [.string a1, .string a2, .slice (some ⟨w1.heap.size + 1, 0, none⟩) 1 1]) ?hr ?hp HX.out HX.out.size cM ?_; (case hd => rfl); (case hr => exact u6_); (case hp => exact je ⟨rfl, rfl, one3 _ _ _ _ _⟩); intro v39 w39 ho hb hst hap; have D39_R37 := am_ (hap _ _ R37.out); have R37_ := am_ (R37.out.below hst); clear R37; have R37 := R37_; clear R37_; have R39 := am_ ho; clear HX; have HX := am_ hb; clear ho hb hst hap; refine hK.out _ _ ⟨ah HX.out HS.out.1, ah HX.out HS.out.2.1, ah HX.out HS.out.2.2⟩ (fun hHeld => ?_); clear hK K; refine nm_ ?_; exact gj mZ (hCont (v33, v37, v39) _ ⟨R37.out, R39.out, (Ne.symm D39_R37.out), HX.out, ⟨ah HX.out HS.out.1, ah HX.out HS.out.2.1, ah HX.out HS.out.2.2⟩⟩)
   ·skip
    refine kj (w0 := w2) (B := w2.heap.size) cO (N := 39) ?hd (rows := [[.string a1, .string a2, .slice (some ⟨w1.heap.size + 1, 0, none⟩) 1 1]]) (inner := [.string a1, .string a2, .slice (some ⟨w1.heap.size + 1, 0, none⟩) 1 1]) ?hr ?hp HX.out HX.out.size cM ?_; (case hd => rfl); (case hr => exact u6_); (case hp => exact je ⟨rfl, rfl, one3 _ _ _ _ _⟩); intro v39 w39 ho hb hst hap; have D39_R33 := am_ (hap _ _ R33.out); have R33_ := am_ (R33.out.below hst); clear R33; have R33 := R33_; clear R33_; have R39 := am_ ho; clear HX; have HX := am_ hb; clear ho hb hst hap; refine hK.out _ _ ⟨ah HX.out HS.out.1, ah HX.out HS.out.2.1, ah HX.out HS.out.2.2⟩ (fun hHeld => ?_); clear hK K; refine nm_ ?_; clear hHeld; refine ov_ 4 37 (fun K hK => ?_); refine lc (w0 := w2) (B := w2.heap.size) cO (.tmp 33) (.tmp 36) rfl rfl rfl R33.out (Kd.C_below HC1.out (jm HW1.out HX.out)) HX.out HX.out.size (by have := HI.out; have := HL.out; simp; omega) ?_; intro v37 w37 ho hb hap; have R39_ := am_ (hap _ _ R39.out (Ne.symm D39_R33.out)); clear R39; have R39 := am_ R39_.out.1; have D37_R39 := am_ R39_.out.2; clear R39_; have R37 := am_ ho; clear HX; have HX := am_ hb; clear ho hb hap; refine hK.out _ _ ⟨ah HX.out HS.out.1, ah HX.out HS.out.2.1, ah HX.out HS.out.2.2⟩ (fun hHeld => ?_); clear hK K; refine nm_ ?_; exact gj mZ (hCont (v33, v37, v39) _ ⟨R37.out, R39.out, D37_R39.out, HX.out, ⟨ah HX.out HS.out.1, ah HX.out HS.out.2.1, ah HX.out HS.out.2.2⟩⟩)
  ·skip
   refine kj (w0 := w2) (B := w2.heap.size) cO (N := 39) ?hd (rows := [[.string a1, .string a2, .slice (some ⟨w1.heap.size + 1, 0, none⟩) 1 1]]) (inner := [.string a1, .string a2, .slice (some ⟨w1.heap.size + 1, 0, none⟩) 1 1]) ?hr ?hp HX.out HX.out.size cM ?_; (case hd => rfl); (case hr => exact u6_); (case hp => exact je ⟨rfl, rfl, one3 _ _ _ _ _⟩); intro v39 w39 ho hb hst hap; have R39 := am_ ho; clear HX; have HX := am_ hb; clear ho hb hst hap; refine hK.out _ _ ⟨ah HX.out HS.out.1, ah HX.out HS.out.2.1, ah HX.out HS.out.2.2⟩ (fun hHeld => ?_); clear hK K; refine nm_ ?_; clear hHeld; refine ov_ 0 33 (fun K hK => ?_); refine kj (w0 := w2) (B := w2.heap.size) cO (N := 33) ?hd (rows := []) (inner := []) ?hr ?hp HX.out HX.out.size cM ?_; (case hd => rfl); (case hr => exact u6_); (case hp => exact Reps.none _ _); intro v33 w33 ho hb hst hap; have D33_R39 := am_ (hap _ _ R39.out); have R39_ := am_ (R39.out.below hst); clear R39; have R39 := R39_; clear R39_; have R33 := am_ ho; clear HX; have HX := am_ hb; clear ho hb hst hap; refine hK.out _ _ ⟨ah HX.out HS.out.1, ah HX.out HS.out.2.1, ah HX.out HS.out.2.2⟩ (fun hHeld => ?_); clear hK K; refine nm_ ?_; clear hHeld; refine ov_ 4 37 (fun K hK => ?_); refine lc (w0 := w2) (B := w2.heap.size) cO (.tmp 33) (.tmp 36) rfl rfl rfl R33.out (Kd.C_below HC1.out (jm HW1.out HX.out)) HX.out HX.out.size (by have := HI.out; have := HL.out; simp; omega) ?_; intro v37 w37 ho hb hap; have R39_ := am_ (hap _ _ R39.out D33_R39.out); clear R39; have R39 := am_ R39_.out.1; have D37_R39 := am_ R39_.out.2; clear R39_; have R37 := am_ ho; clear HX; have HX := am_ hb; clear ho hb hap; refine hK.out _ _ ⟨ah HX.out HS.out.1, ah HX.out HS.out.2.1, ah HX.out HS.out.2.2⟩ (fun hHeld => ?_); clear hK K; refine nm_ ?_; exact gj mZ (hCont (v33, v37, v39) _ ⟨R37.out, R39.out, D37_R39.out, HX.out, ⟨ah HX.out HS.out.1, ah HX.out HS.out.2.1, ah HX.out HS.out.2.2⟩⟩)
 clear hHeld HX; rintro ⟨v33, v37, v39⟩ w3 ⟨hr37, hr39, hne, hx, hHeld⟩; have R37 := am_ hr37; have R39 := am_ hr39; have HX := am_ hx; have HNE := am_ hne; obtain ⟨A39, c39, e39, _, hc39⟩ := Kd.R_reads hr39.1; simp only at e39; subst e39; have HC39 := am_ hc39; clear hr37 hr39 hx hne hc39; simp only [ig, Act.put, List.setIfInBounds_toArray, List.set_cons_zero, List.set_cons_succ]; refine ov_ 7 40 (fun K hK => ?_); refine lc (w0 := w2) (B := w2.heap.size) cO (.tmp 37) (.tmp 39) rfl rfl rfl R37.out HC39.out HX.out HX.out.size u79_ ?_; intro v40 w40 ho hb hap; have R40 := am_ ho; clear HX; have HX := am_ hb; clear ho hb hap; refine hK.out _ _ ⟨ah HX.out HS.out.1, ah HX.out HS.out.2.1, ah HX.out HS.out.2.2⟩ (fun hHeld => ?_); clear hK K; refine nm_ ?_; clear hHeld; refine ov_ 11 44 (fun K hK => ?_); refine lc (w0 := w2) (B := w2.heap.size) cO (.tmp 40) (.tmp 43) rfl rfl rfl R40.out (Kd.C_below HC2.out (jm HW1.out HX.out)) HX.out HX.out.size u79_ ?_; intro v44 w44 ho hb hap; have R44 := am_ ho; clear HX; have HX := am_ hb; clear ho hb hap; refine hK.out _ _ ⟨ah HX.out HS.out.1, ah HX.out HS.out.2.1, ah HX.out HS.out.2.2⟩ (fun hHeld => ?_); clear hK K; refine nm_ ?_; refine pv_ 12 10 ?_; refine dn_ HT_ ?_; try go_wp2
 go_ret
 exact ⟨v44, rfl, HRR.out ▸ re HM.out HRL.out HI.out HP.out R44.out HW1.out HB1.out HBW.out HX.out HB0.out.size ⟨Nat.le_refl _, by have := HZ.out; omega⟩, HB0.out.trans ((HW1.out.mono HB0.out.size).trans (HX.out.mono (Nat.le_trans HB0.out.size HW1.out.size))), Kept.of_below (HW1.out.trans (HX.out.mono HW1.out.size)) _⟩
end
section
open Go Go.RowKit Go.Proofs.YtnjjdojonflckaaGreatDoorW.PrintWords Go.Proofs.YtnjjdojonflckaaGreatDoorW.PrintLast Go.Proofs.YtnjjdojonflckaaGreatDoorW.PrintMore Go.Proofs.YtnjjdojonflckaaGreatDoor.Ent
theorem kT (a3 a4 : Int) (w1 : World) (b : Nat) (hb : b ≤ w1.heap.size) : k50.M (w1.alloc (.cells #[.int .i64 a4] 3)) b (fun k => k = w1.heap.size) ⟨a3, [a4]⟩ [.int .i64 a3, .slice (some ⟨w1.heap.size, 0, none⟩) 1 1] := by
 refine iL _ _ _ _ ?_; have h := kG (enc := Value.int .i64) w1 b 3 [a4] hb cM; exact Kd.R_of_own h (fun k hk => by simpa [Value.ownBlock] using hk.symm)
theorem there {w : World} {base : Nat} {ok : Nat → Prop} {u : Value} {l : List S76} {i m : Nat} {e : S76} {p : S50} (hS : Kd.S kE 76 w base ok u l) (he : l[i]? = some e) (hp : e.f2[m]? = some p) (hm : e.f2.length = m + 1) :
  ∃ g cap g2 cap2 u2, ∃ oki2 oki : Nat → Prop, u = .slice (some ⟨g, 0, none⟩) l.length cap ∧
   w.cell? ⟨g, i * 3 + 2, none⟩ = some (.slice (some ⟨g2, 0, none⟩) (m + 1) cap2) ∧ w.frozen? ⟨g, i * 3 + 2, none⟩ = false ∧
   w.cell? ⟨g2, m * 2, none⟩ = some (.int .i64 p.f0) ∧ w.cell? ⟨g2, m * 2 + 1, none⟩ = some u2 ∧ w.frozen? ⟨g2, m * 2 + 1, none⟩ = false ∧
   kI.R 3 w base oki2 u2 p.f1 ∧ (∀ k, oki2 k → ok k ∧ k < w.heap.size ∧ k ≠ g2) ∧ g2 < w.heap.size ∧ ok g2 ∧ g2 ≠ g ∧ ok g ∧ g < w.heap.size ∧ base ≤ g2 ∧ base ≤ g ∧
   (∀ (w1 : World) (u1 : Value) (x : Int) (okp : Nat → Prop), w.grownBy w1 u2.ownBlock → kI.R 3 w1 base okp u1 (p.f1 ++ [x]) → (∀ k, okp k → oki2 k ∨ w.heap.size ≤ k) →
    Kd.S kE 76 (w1.setCell ⟨g2, m * 2 + 1, none⟩ u1) base (fun k => ok k ∨ w.heap.size ≤ k) u (l.set i ⟨e.f0, e.f1, e.f2.set m ⟨p.f0, p.f1 ++ [x]⟩⟩) ∧ w1.grownBy (w1.setCell ⟨g2, m * 2 + 1, none⟩ u1) (some g2)) ∧
   Kd.S k50 50 w base oki (.slice (some ⟨g2, 0, none⟩) (m + 1) cap2) e.f2 ∧ (∀ k, oki k → ok k ∧ k < w.heap.size ∧ k ≠ g) ∧
   (∀ (w1 : World) (v3 : Value) (ps' : List S50) (okp : Nat → Prop), w.grownBy w1 (some g2) → Kd.S k50 50 w1 base okp v3 ps' → (∀ k, okp k → oki k ∨ w.heap.size ≤ k) →
    Kd.S kE 76 (w1.setCell ⟨g, i * 3 + 2, none⟩ v3) base (fun k => ok k ∨ w.heap.size ≤ k) u (l.set i ⟨e.f0, e.f1, ps'⟩) ∧ w1.grownBy (w1.setCell ⟨g, i * 3 + 2, none⟩ v3) (some g)) := by
 have hil : i < l.length := (List.getElem?_eq_some_iff.1 he).1; obtain ⟨g, cap, rfl, hbase, hlt, hcells⟩ := Kd.S_form hS u7_; have hokg : ok g := (Kd.S_R hS).1 g (by simp [Value.ownBlock]); have hA : Kd.S kE 76 w base (fun k => (ok k ∨ w.heap.size ≤ k) ∧ ¬ (w.heap.size ≤ k)) (.slice (some ⟨g, 0, none⟩) l.length cap) l :=
  Kd.S_mono (Kd.S_bound hS) (fun k hk => ⟨.inl hk.1, by have := hk.2.2.1; omega⟩)
 obtain ⟨oki, c, hcl, hM, hcc, hfr, hoki, hH⟩ := Kd.S_elem hA z76 (i : Int) u7_ u7_; have hget : l.getD ((i : Int)).toNat z76 = e := by simp [List.getD_eq_getElem?_getD, he]
 rw [hget] at hM; obtain ⟨v2, rfl, hP⟩ := nY hM; have e3 : kE.sz = 3 := rfl; have hc2 := hcc 2 _ rfl; have hf2 := hfr 2; simp only [e3, Int.toNat_natCast] at hc2 hf2; obtain ⟨g2, cap2, u2, oki2, rfl, hlt2, hb2, hok2, hcells2, hd0, hd1, hdf, hR, hoki2, hback⟩ := pg hP m p hp hm.symm; have hok' : ∀ k, oki k → ok k ∧ k < w.heap.size ∧ k ≠ g := fun k hk => by
  have h := hoki k hk; exact ⟨h.1.1.elim id (fun h2 => absurd h2 h.1.2), by have := h.1.2; omega, h.2⟩
 have hH0 : Kd.H kE 76 w base (fun k => ok k ∨ w.heap.size ≤ k) (.slice (some ⟨g, 0, none⟩) l.length cap) l (i : Int) (fun k => oki k ∨ (ok k ∨ w.heap.size ≤ k) ∧ w.heap.size ≤ k) _ := Kd.H_widen (Kd.H_mono hH (fun k hk => hk.1)); rw [hm] at hc2; refine ⟨g, cap, g2, cap2, u2, oki2, oki, rfl, hc2, hf2, hd0, hd1, hdf, hR, fun k hk => ?_, hlt2, (hok' g2 hok2).1, (hok' g2 hok2).2.2, hokg, hlt, hb2, hbase, ?_, by rw [← hm]; exact hP, hok', ?_⟩
 ·have := hoki2 k hk; exact ⟨(hok' k this.1).1, this.2.1, this.2.2⟩
 ·intro w1 u1 x okp hg hr hokp; obtain ⟨h1, h2⟩ := hback w1 u1 x okp hg hr hokp; refine ⟨?_, h2⟩; have hH1 := Kd.H_grown (Kd.H_grown hH0 hg (fun k hk => .inl (hoki2 k (hR.1 k hk)).1)) h2 (fun k hk => by injection hk with hk; subst hk; exact .inl hok2); have hM2 : kE.M (w1.setCell ⟨g2, m * 2 + 1, none⟩ u1) base (fun k => oki k ∨ w.heap.size ≤ k) ⟨e.f0, e.f1, e.f2.set m ⟨p.f0, p.f1 ++ [x]⟩⟩ [.string e.f0, .string e.f1, .slice (some ⟨g2, 0, none⟩) e.f2.length cap2] := oJ _ _ _ _ h1; have := Kd.H_back hH1 hM2 (fun k hk => hk.elim .inl (fun h => .inr ⟨.inr h, h⟩)); simpa using this
 ·intro w1 v3 ps' okp hg hP' hokp; have hH1 := Kd.H_grown hH0 hg (fun k hk => by injection hk with hk; subst hk; exact .inl hok2); have hM2 : kE.M w1 base okp ⟨e.f0, e.f1, ps'⟩ [.string e.f0, .string e.f1, v3] := oJ _ _ _ _ hP'; have hz := Kd.S_seg0 (okp := okp) hH1 u7_ u7_ (seg := [v3]) (j := 2) (by show 2 + 1 ≤ 3; omega) (x' := ⟨e.f0, e.f1, ps'⟩) hM2 (fun k hk => (hokp k hk).elim .inl (fun h => .inr ⟨.inr h, h⟩)); simp only [e3, Int.toNat_natCast] at hz; exact hz
theorem qd (i m : Nat) (u : Value) (l : List S76) (a1 a2 : ByteArray) (a3 a4 : Int) (k : Nat) (w0 w : World) (ok : Nat → Prop) (e : S76) (p : S50) (hB : Below w0.heap.size w0 w) (hS : Kd.S kE 76 w w0.heap.size ok u l) (hA : bC.f k l a1 a2 = some ((i : Int), true)) (he : l[i]? = some e) (hp : e.f2[m]? = some p) (hm : e.f2.length = m + 1) (hd : p.f0 = a3) (hl : e.f2.length < 1000000) (hl2 : p.f1.length < 1000000) (r : List S76) (hr : l.set i ⟨e.f0, e.f1, e.f2.set m ⟨p.f0, p.f1 ++ [a4]⟩⟩ = r) :
  Calls Tryz.prog 142 #[u, .string a1, .string a2, .int .i64 a3, .int .i64 a4] w fun e w' => ∃ v : Value, e = .returned v ∧ Kd.S kE 76 w' w0.heap.size (fun k_ => ok k_ ∨ w.heap.size ≤ k_) v r ∧ Below w0.heap.size w0 w' ∧ Kept w w' ok := by
 have hil : i < l.length := (List.getElem?_eq_some_iff.1 he).1; obtain ⟨A, c, hu, hlc, hC⟩ := Kd.S_reads (pf hS); have hmax := hC.2.1; obtain ⟨g0, cap0, hu0, hx1_, hx2_, hx3_⟩ := Kd.S_form hS u7_; rw [hu] at hu0; injection hu0 with hA0 hy1_ hy2_
 clear hx1_ hx2_ hx3_ hy1_ hy2_; subst hA0; subst hu; have HS := am_ hS; have HB0 := am_ hB; have HA := am_ hA; have HE := am_ he; have HP := am_ hp; have HMM := am_ hm; have HD := am_ hd; have HRR := am_ hr; have HL := am_ hl; have HL2 := am_ hl2; have hmb : m ≤ 1000000 := by omega
 have hq1 : decide ((i : Int) < (l.length : Int)) = true := decide_eq_true u7_; have hq2 : (0 ≤ (i : Int)) = True := eq_true u7_; have hq3 : ((i : Int) < (l.length : Int)) = True := eq_true u7_; have hq4 : (0 ≤ (m : Int)) = True := eq_true u7_; have hq5 : ((m : Int) < ((m + 1 : Nat) : Int)) = True := eq_true u7_; clear hS hB hA he hp hm hd hr hl hl2; have HIL := am_ hil; clear hil hmax; go_enter Tryz.func142, Tryz.ntmps142
 go_wp2_with (first | (go_at_call 95; refine (bC.calls k _ _ _ _ _ _ _ _ hC hlc HA.out).mono ?_; rintro e1 w1 ⟨rfl, hd⟩; have HB1 := am_ hd.below; clear hd; obtain ⟨g, cap, g2, cap2, u2, oki2, oki, hu, hc2, hf2, hd0, hd1, hdf, hR, hoki2, hlt2, hok2, hne2, hok, hltg, hbg2, hbg, hsame, hpost, hoki, hnext⟩ := there (Kd.S_below HS.out HB1.out) HE.out HP.out HMM.out; injection hu with hu1 hy1_ hy2_; injection hu1 with hu1; injection hu1 with hu1 hy3_ hy4_; clear hy1_ hy2_ hy3_ hy4_; subst hu1; rw [HD.out] at hd0; have HR := am_ hR; have HOK2 := am_ hoki2; have HSAME := am_ hsame; have HX1 := am_ (And.intro hok2 (And.intro hne2 (And.intro hok (And.intro hltg (And.intro hlt2 (And.intro hbg2 hbg)))))); clear hbg2 hbg hR hoki2 hsame hpost hoki hnext hok2 hne2 hok hltg hlt2) | ((with_reducible refine bV (b := .append) (xs := #[.tmp 66, .tmp 68]) rfl ?_); at_builtin; refine Kd.R_append kI (w0 := w0) w0.heap.size rfl (.tmp 66) (.tmp 68) 39 3 (.int .i64 0) 8 rfl Tryz.underlying39 qR rfl aC u7_ u2 p.f1 a4 [.int .i64 a4] (fun k => oki2 k ∨ w1.heap.size ≤ k) (fun _ => False) rfl rfl rfl (fun _ hk => hk.elim) (fun k hk => .inr hk) (Kd.R_mono HR.out (fun _ hk => .inl hk)) (HB0.out.trans (HB1.out.mono HB0.out.size)) (Nat.le_trans HB0.out.size HB1.out.size) (by have := HL2.out; omega) ?_; intro u3 w3 ho hb hg hat; have hne : some g2 ≠ u2.ownBlock := (fun he => (HOK2.out g2 (HR.out.1 g2 he.symm)).2.2 rfl); have hh := hg.block g2 HX1.out.2.2.2.2.1 hne; replace hd1 := Go.Proofs.YtnjjdojonflckaaGreatDoorW.PrintWords.cell_grown hg hd1 hne; replace hdf : w3.frozen? ⟨g2, m * 2 + 1, none⟩ = false := (by simpa [World.frozen?, hh] using hdf); obtain ⟨A3, c3, rfl⟩ := Kd.R_slice ho; have HR3 := am_ ho; have HB3 := am_ hb; have HG := am_ hg; clear ho hb hg hat hne hh hd0 hc2 hf2))
 go_ret
 have hz := HSAME.out w3 _ a4 _ HG.out HR3.out (fun _ hk => hk); simp only [List.length_append, List.length_singleton] at hz; refine ⟨.slice (some ⟨g0, 0, none⟩) l.length c, rfl, ?_, eV HB3.out (some g2) (HB3.out.size) hz.2 (fun k hk => by injection hk with hk; rw [← hk]; exact HX1.out.2.2.2.2.2.1), ?_⟩
 ·exact u75_
 ·exact Kept.of_grown hz.2 (Kept.of_grown HG.out (Kept.of_below HB1.out ok) (fun k hk => .inl (HOK2.out k (HR.out.1 k hk)).1)) (fun k hk => by injection hk with hk; rw [← hk]; exact .inl HX1.out.1)
theorem qx (i m : Nat) (u : Value) (l : List S76) (a1 a2 : ByteArray) (a3 a4 : Int) (k : Nat) (w0 w : World) (ok : Nat → Prop) (e : S76) (p : S50) (hB : Below w0.heap.size w0 w) (hS : Kd.S kE 76 w w0.heap.size ok u l) (hA : bC.f k l a1 a2 = some ((i : Int), true)) (he : l[i]? = some e) (hp : e.f2[m]? = some p) (hm : e.f2.length = m + 1) (hd : p.f0 ≠ a3) (hl : e.f2.length < 1000000) (r : List S76) (hr : l.set i ⟨e.f0, e.f1, e.f2 ++ [⟨a3, [a4]⟩]⟩ = r) :
  Calls Tryz.prog 142 #[u, .string a1, .string a2, .int .i64 a3, .int .i64 a4] w fun e w' => ∃ v : Value, e = .returned v ∧ Kd.S kE 76 w' w0.heap.size (fun k_ => ok k_ ∨ w.heap.size ≤ k_) v r ∧ Below w0.heap.size w0 w' ∧ Kept w w' ok := by
 have hil : i < l.length := (List.getElem?_eq_some_iff.1 he).1; obtain ⟨A, c, hu, hlc, hC⟩ := Kd.S_reads (pf hS); have hmax := hC.2.1; obtain ⟨g0, cap0, hu0, hx1_, hx2_, hx3_⟩ := Kd.S_form hS u7_; rw [hu] at hu0; injection hu0 with hA0 hy1_ hy2_
 clear hx1_ hx2_ hx3_ hy1_ hy2_; subst hA0; subst hu; have HS := am_ hS; have HB0 := am_ hB; have HA := am_ hA; have HE := am_ he; have HP := am_ hp; have HMM := am_ hm; have HRR := am_ hr; have HL := am_ hl; have hdb : (p.f0 == a3) = false := by simpa using hd
 have hmb : m ≤ 1000000 := by omega
 have hq1 : decide ((i : Int) < (l.length : Int)) = true := decide_eq_true u7_; have hq2 : (0 ≤ (i : Int)) = True := eq_true u7_; have hq3 : ((i : Int) < (l.length : Int)) = True := eq_true u7_; have hq4 : (0 ≤ (m : Int)) = True := eq_true u7_; have hq5 : ((m : Int) < ((m + 1 : Nat) : Int)) = True := eq_true u7_; clear hS hB hA he hp hm hd hr hl hil hmax; go_enter Tryz.func142, Tryz.ntmps142
 go_wp2_with (first | (go_at_call 95; refine (bC.calls k _ _ _ _ _ _ _ _ hC hlc HA.out).mono ?_; rintro e1 w1 ⟨rfl, hd⟩; have HB1 := am_ hd.below; clear hd; obtain ⟨g, cap, g2, cap2, u2, oki2, oki, hu, hc2, hf2, hd0, hd1, hdf, hR, hoki2, hlt2, hok2, hne2, hok, hltg, hbg2, hbg, hsame, hpost, hoki, hnext⟩ := there (Kd.S_below HS.out HB1.out) HE.out HP.out HMM.out; injection hu with hu1 hy1_ hy2_; injection hu1 with hu1; injection hu1 with hu1 hy3_ hy4_; clear hy1_ hy2_ hy3_ hy4_; subst hu1; have HPO := am_ hpost; have HOKI := am_ hoki; have HNEXT := am_ hnext; have HX1 := am_ (And.intro hok2 (And.intro hne2 (And.intro hok (And.intro hltg (And.intro hlt2 (And.intro hbg2 hbg)))))); clear hbg2 hbg hR hoki2 hsame hpost hoki hnext hok2 hne2 hok hltg hlt2 hd1 hdf) | ((with_reducible refine bV (b := .append) (xs := #[.tmp 74, .tmp 79]) rfl ?_); at_builtin; refine Kd.S_append k50 (w0 := w0) w0.heap.size rfl (.tmp 74) (.tmp 79) 34 50 (.agg #[(.int .i64 0), (.slice none 0 0)]) 32 rfl Tryz.underlying34 mK rfl aC u7_ (.slice (some ⟨g2, 0, none⟩) (m + 1) cap2) e.f2 (⟨a3, [a4]⟩ : S50) [.int .i64 a3, .slice (some ⟨w1.heap.size, 0, none⟩) 1 1] (fun k => oki k ∨ w1.heap.size ≤ k) (fun k => k = w1.heap.size) rfl u77_ ?aP ?aK ?aF ?aO ?aB ?aS ?aL ?_; (case aP => exact kT a3 a4 w1 w0.heap.size (Nat.le_trans HB0.out.size HB1.out.size)); (case aK => exact (fun k hk => ⟨.inr u7_, by have := HX1.out.2.2.2.2.1; simp [Value.ownBlock]; omega⟩)); (case aF => exact (fun k hk => .inr (by simp at hk; omega))); (case aO => exact Kd.S_alloc (Kd.S_mono (Kd.S_bound HPO.out) (fun k hk => ⟨.inl hk.1, by have := hk.2.2.1; omega⟩)) _); (case aB => exact bw (HB0.out.trans (HB1.out.mono HB0.out.size)) _); (case aS => exact Nat.le_trans (Nat.le_trans HB0.out.size HB1.out.size) cM); (case aL => have := HL.out; omega); intro v3 w3 ho hb hg hat; have hg' : w1.grownBy w3 (some g2) := World.grownBy.trans (World.grownBy_alloc w1 _ _) hg; have hne : some g0 ≠ some g2 := (fun he => HX1.out.2.1 (by injection he with he; exact he.symm)); have hh := hg'.block g0 HX1.out.2.2.2.1 hne; replace hc2 := Go.Proofs.YtnjjdojonflckaaGreatDoorW.PrintWords.cell_grown hg' hc2 hne; replace hf2 : w3.frozen? ⟨g0, i * 3 + 2, none⟩ = false := (by simpa [World.frozen?, hh] using hf2); obtain ⟨A3, c3, rfl⟩ := Kd.S_slice ho; have HR3 := am_ ho; have HB3 := am_ hb; have HG := am_ hg'; clear ho hb hg hg' hat hne hh hd0))
 go_ret
 have hz := HNEXT.out w3 _ _ _ HG.out HR3.out (fun _ hk => hk); simp only [List.length_append, List.length_singleton] at hz; refine ⟨.slice (some ⟨g0, 0, none⟩) l.length c, rfl, ?_, eV HB3.out (some g0) (HB3.out.size) hz.2 (fun k hk => by injection hk with hk; rw [← hk]; exact HX1.out.2.2.2.2.2.2), ?_⟩
 ·exact u75_
 ·exact Kept.of_grown hz.2 (Kept.of_grown HG.out (Kept.of_below HB1.out ok) (fun k hk => by injection hk with hk; rw [← hk]; exact .inl HX1.out.1)) (fun k hk => by injection hk with hk; rw [← hk]; exact .inl HX1.out.2.2.1)
end
section
open Go Go.RowKit Go.Proofs.YtnjjdojonflckaaGreatDoorW.PrintWords Go.Proofs.YtnjjdojonflckaaGreatDoorW.PrintLast Go.Proofs.YtnjjdojonflckaaGreatDoorW.PrintMore Go.Proofs.YtnjjdojonflckaaGreatDoor.Ent
theorem nT {ps : List S50} {m : Nat} {p : S50} (hp : ps[m]? = some p) (hm : ps.length = m + 1) (id x : Int) : fh ps id x = if p.f0 = id then ps.set m ⟨p.f0, p.f1 ++ [x]⟩ else ps ++ [⟨id, [x]⟩] := by
 have hl : ps.getLast? = some p := by rw [List.getLast?_eq_getElem?, hm]; exact hp
 unfold fh
 rw [hl, hm]; rfl
theorem co.calls (k : Nat) (u : Value) (l : List S76) (a1 a2 : ByteArray) (a3 a4 : Int) (r : List S76) (w0 w : World) (ok : Nat → Prop) (hB : Below w0.heap.size w0 w) (hS : Kd.S kE 76 w w0.heap.size ok u l) (h : co.f k l a1 a2 a3 a4 = some r) :
  Calls Tryz.prog 142 #[u, .string a1, .string a2, .int .i64 a3, .int .i64 a4] w fun e w' => ∃ v : Value, e = .returned v ∧ Kd.S kE 76 w' w0.heap.size (fun k_ => ok k_ ∨ w.heap.size ≤ k_) v r ∧ Below w0.heap.size w0 w' ∧ Kept w w' ok := by
 unfold co.f at h
 obtain ⟨⟨r1, r2⟩, hA, h⟩ := Option.bind_eq_some_iff.1 h; cases r2 with
 | false =>
  simp only [Bool.false_eq_true, if_false] at h; by_cases hc : 0 ≤ r1 ∧ r1 ≤ (l.length : Int) ∧ l.length < 1000000
  ·rw [if_pos hc] at h; obtain ⟨i, rfl⟩ := Int.eq_ofNat_of_zero_le hc.1; exact qQ i u l a1 a2 a3 a4 k w0 w ok hB hS hA u7_ hc.2.2 r (Option.some.inj h)
  ·rw [if_neg hc] at h; cases h
 | true =>
  simp only [if_true] at h; cases he : l[r1.toNat]? with
  | none => rw [he] at h; cases h
  | some e =>
   rw [he] at h; simp only at h; by_cases hc : 0 ≤ r1 ∧ e.f2 ≠ [] ∧ wide e.f2 = true
   ·rw [if_pos hc] at h; obtain ⟨i, rfl⟩ := Int.eq_ofNat_of_zero_le hc.1; rw [Int.toNat_natCast] at he h; have hpos : 0 < e.f2.length := List.length_pos_iff.2 hc.2.1; obtain ⟨m, hm⟩ : ∃ m, e.f2.length = m + 1 := ⟨e.f2.length - 1, u7_⟩; have hp : e.f2[m]? = some (e.f2[m]'u7_) := List.getElem?_eq_getElem _; have hw := hc.2.2; unfold wide at hw
    rw [Bool.and_eq_true, decide_eq_true_eq, List.all_eq_true] at hw; rw [nT hp hm] at h; by_cases hd : (e.f2[m]'u7_).f0 = a3
    ·rw [if_pos hd] at h; exact qd i m u l a1 a2 a3 a4 k w0 w ok e _ hB hS hA he hp hm hd hw.1 (by simpa using hw.2 _ (List.getElem_mem _)) r (Option.some.inj h)
    ·rw [if_neg hd] at h; exact qx i m u l a1 a2 a3 a4 k w0 w ok e _ hB hS hA he hp hm hd hw.1 r (Option.some.inj h)
   ·rw [if_neg hc] at h; cases h
def ch.ts (k : Nat) (id : Int) (name : ByteArray) : List ByteArray → Int → List S76 → Option (List S76)
 | [], _, L => some L
 | t :: ts, x, L => if t.size = 0 then ch.ts k id name ts (x + 1) L else (co.f k L name t id x).bind fun L' => ch.ts k id name ts (x + 1) L'
def ch.cs (k : Nat) (fs : List S92) (id : Int) : List S86 → List S76 → Option (List S76)
 | [], L => some L
 | c :: cs, L => (dM.f k fs c.f0 1).bind fun b => if b = true then (cA.f k c.f1).bind fun ts => (ch.ts k id c.f0 ts 0 L).bind fun L' => ch.cs k fs id cs L' else ch.cs k fs id cs L
def b4.rs (k : Nat) (fs : List S92) : List S46 → List S76 → Option (List S76)
 | [], L => some L
 | r :: rs, L => (ch.cs k fs r.f0 r.f1.f1 L).bind fun L' => b4.rs k fs rs L'
theorem rn {w : World} {A : Option Addr} {xs : List ByteArray} (h : Kd.C Kd.string w A xs.length xs) (j : Nat) (hj : j < xs.length) : ∃ ad, A = some ad ∧ w.cell? (ad.add j) = some (.string xs[j]) := by
 obtain ⟨ad, c, e, hcl, hK, hc⟩ := Kd.C_get h ByteArray.empty (j : Int) u7_ u7_; have hk : c = [.string (xs.getD ((j : Int)).toNat ByteArray.empty)] := hK; subst hk; have := hc 0 _ rfl; have e1 : Kd.string.sz = 1 := rfl; rw [e1, Nat.mul_one, Nat.add_zero, Int.toNat_natCast] at this; refine ⟨ad, e, ?_⟩; rw [this, List.getD_eq_getElem?_getD, List.getElem?_eq_getElem hj]; rfl
theorem r8 {ops : Array Oper} {rest : List Oper} {o : Oper} {a : Act} {Q : Exit → Act → World → Prop} {w0 W : World} {B : Nat} (hgd : o.guard = none) {N : Tmp} (hd : o.dst = some N)
  (hrun : (execOp a.eval o).run Tryz.prog W = .ok (.value (.slice (some ⟨W.heap.size, 0, none⟩) 0 0)) (W.alloc (.cells #[] 76)))
  (HB : Below B w0 W) (hbase : B ≤ W.heap.size) (h : ∀ v1 w1, Kd.S kE 76 w1 B (fun _ => True) v1 [] → Below B w0 w1 → wpList Tryz.prog ops Q rest (a.put o.dst v1) w1) : wpList Tryz.prog ops Q (o :: rest) a W :=
 Kd.S_lit kE (w0 := w0) B 76 hgd hd (xs := []) (inner := []) (ok := fun _ => True) (okp := fun _ => True) hrun (Reps.none _ _) (fun _ hk => hk) trivial HB hbase cM (fun v1 w1 hs hb _ _ => h v1 w1 hs hb)
theorem qb {b : Bool} (s : ByteArray) (h : (!s.toList.isEmpty) = b) : decide (s.size = 0) = !b := by
 subst h; have e : s.toList.length = s.size := by rw [ByteArray.toList_eq]; exact Array.length_toList
 by_cases h : s.size = 0
 ·have : s.toList = [] := List.eq_nil_of_length_eq_zero u7_; simp [h, this]
 ·have : s.toList ≠ [] := fun h2 => h (by rw [← e, h2]; rfl)
  simp [h, this]
theorem nf (k : Nat) (A0 : Option Addr) (c0 : Nat) (fs : List S92) (u : Value) (L : List S76) (id : Int) (key : ByteArray) (A2 : Option Addr) (c2 : Nat) (cs : List S86) (r : List S76) (w0 w : World) (ok : Nat → Prop) (hB : Below w0.heap.size w0 w) (hS : Kd.S kE 76 w w0.heap.size ok u L)
  (hF : ∀ W, Below w0.heap.size w0 W → Kept w W ok → Kd.C k92 W A0 fs.length fs) (hF0 : fs.length ≤ c0) (hC : ∀ W, Below w0.heap.size w0 W → Kept w W ok → Kd.C k86 W A2 cs.length cs) (hC0 : cs.length ≤ c2) (h : ch.cs k fs id cs L = some r) :
  Calls Tryz.prog 101 #[.slice A0 fs.length c0, u, .agg #[.int .i64 id, .string key, .slice A2 cs.length c2]] w fun e w' => ∃ v : Value, e = .returned v ∧ Kd.S kE 76 w' w0.heap.size (fun k_ => ok k_ ∨ w.heap.size ≤ k_) v r ∧ Below w0.heap.size w0 w' ∧ Kept w w' ok := by
 have hlen := (hC w hB (Kept.refl _ _)).2.1; have HF := am_ hF; have HC := am_ hC; have HF0 := am_ hF0; have H := am_ h; have HB := am_ hB; have HK := am_ (Kept.refl w ok); have HS := am_ hS; clear hF hC hF0 h hB hS; have hu46_ := Tryz.underlying46; go_enter Tryz.func101, Tryz.ntmps101
 go_wp2_with (first | ((with_reducible refine gt_ 5 ?_); refine bx_ 5 #[.int .i64 id, .string key, .slice A2 cs.length c2] 46 ?_; intro gb hg w2 hbox hb; have BK := am_ hbox; have HGB := am_ hg; replace HS := am_ (Kd.S_below (Kd.S_bound HS.out) hb); replace HB := am_ (eM HB.out HB.out.size hb); replace HK := am_ (Kept.below HK.out hb); have HW2 := am_ hb.size; have HLT := am_ (dZ hbox); clear hb hbox hg))
 go_loopw [1, 7] (fun v1 v7 wr => ∃ (i : Nat) (L' : List S76), v7 = .int .i64 (i : Int) ∧ i ≤ cs.length ∧ aa (ch.cs k fs id (cs.drop i) L' = some r) ∧ aa (Kd.S kE 76 wr w0.heap.size (fun k_ => (ok k_ ∨ w.heap.size ≤ k_) ∧ k_ ≠ gb) v1 L') ∧ aa (wr.heap[gb]? = some (.cells #[.int .i64 id, .string key, .slice A2 cs.length c2] 46 (0, 0))) ∧ aa (Below w0.heap.size w0 wr) ∧ aa (Kept w wr ok)) (fun _ v _ => match v with | .int _ i => cs.length - i.toNat | _ => 0)
 case atStart => exact ⟨0, L, rfl, Nat.zero_le _, H, ⟨Kd.S_mono HS.out (fun k_ hk => ⟨.inl hk.1, by have := hk.2.2.1; have := HGB.out; omega⟩)⟩, BK, HB, HK⟩
 case round =>
  clear HS BK HB HK H; obtain ⟨i, L', rfl, hi, H, HS, BK, HB, HK⟩ := hrel; rcases Nat.lt_or_ge i cs.length with hlt | hge
  ·obtain ⟨ad, e, hx0, hx1⟩ := dk (HC.out wr HB.out HK.out) (i : Int) u7_ u7_; subst e; simp only [Int.toNat_natCast] at hx0 hx1; have hrd : ac cs (i : Int) = cs[i] := by unfold ac; simp [List.getD_eq_getElem?_getD, List.getElem?_eq_getElem hlt]
   rw [hrd] at hx0 hx1; have h := H.out; rw [List.drop_eq_getElem_cons hlt, ch.cs] at h; generalize cs[i] = c at hx0 hx1 h hrd; have HRD := am_ hrd; clear hrd; obtain ⟨b, hb, h⟩ := Option.bind_eq_some_iff.1 h; have HKI := am_ hb; have hz0 : wr.cell? ⟨gb, 0, none⟩ = some (.int .i64 id) := (bp BK.out 0).trans rfl; have hz2 : wr.cell? ⟨gb, 2, none⟩ = some (.slice (some ad) cs.length c2) := (bp BK.out 2).trans rfl; have p1 : ((i : Int) < (cs.length : Int)) = True := eq_true u7_; have p0 : (0 ≤ (i : Int)) = True := eq_true u7_; cases b with
   | false =>
    simp only [Bool.false_eq_true, if_false] at h; have H2 := am_ h; clear h H; go_wp2_with (first | (go_at_call 140; refine (dM.calls k _ _ _ _ _ _ _ (HF.out wr HB.out HK.out) HF0.out HKI.out).mono ?_; rintro e w3 ⟨rfl, hd⟩; have hbe := hd.below; replace HS := am_ (Kd.S_below HS.out hbe); replace BK := am_ (bh BK.out hbe); replace HB := am_ (eM HB.out HB.out.size hbe); replace HK := am_ (Kept.below HK.out hbe); clear hd hbe hx0 hx1 hz0 hz2))
    go_roundw
    case rel => exact ⟨i + 1, L', gD, u7_, H2, HS, BK, HB, HK⟩
    case measure => simp; omega
   | true =>
    simp only [if_true] at h; obtain ⟨ts, hts, h⟩ := Option.bind_eq_some_iff.1 h; obtain ⟨L2, hL2, h⟩ := Option.bind_eq_some_iff.1 h; have HTS := am_ hts; have HL2 := am_ hL2; have H2 := am_ h; clear h H hts hL2; go_wp2_with (first | (go_at_call 140; refine (dM.calls k _ _ _ _ _ _ _ (HF.out wr HB.out HK.out) HF0.out HKI.out).mono ?_; rintro e w3 ⟨rfl, hd⟩; have hbe := hd.below; replace HS := am_ (Kd.S_below HS.out hbe); replace BK := am_ (bh BK.out hbe); replace HB := am_ (eM HB.out HB.out.size hbe); replace HK := am_ (Kept.below HK.out hbe); replace hx0 := ah hbe hx0; replace hx1 := ah hbe hx1; replace hz0 := ah hbe hz0; replace hz2 := ah hbe hz2; clear hd hbe) | (go_at_call 141; refine (cA.calls k _ _ _ HTS.out).mono ?_; rintro e w4 ⟨vt, rfl, ht, hbe⟩; obtain ⟨A8, c8, rfl⟩ := Kd.R_slice ht; have HS4 := am_ (Kd.S_elder' HS.out (Kd.R_base ht) hbe); have HT := am_ (Kd.R_lower (Kd.R_tight rfl ht) HB.out.size); replace BK := am_ (bh BK.out hbe); replace HB := am_ (eM HB.out HB.out.size hbe); replace HK := am_ (Kept.below HK.out hbe); replace hx0 := ah hbe hx0; replace hx1 := ah hbe hx1; replace hz0 := ah hbe hz0; replace hz2 := ah hbe hz2; clear hbe ht HS))
    clear hx0 hx1 hz0 hz2; have hlt8 := (Kd.R_reads' HT.out).2.2.2.1; go_loopw [1, 9] (fun v1 v9 wq => ∃ (j : Nat) (L3 : List S76), v9 = .int .i64 (j : Int) ∧ j ≤ ts.length ∧ aa (ch.ts k id c.f0 (ts.drop j) (j : Int) L3 = some L2) ∧ aa (Kd.S kE 76 wq w0.heap.size (fun k_ => ((ok k_ ∨ w.heap.size ≤ k_) ∧ k_ ≠ gb) ∧ some k_ ≠ (Value.slice A8 ts.length c8).ownBlock) v1 L3) ∧ aa (Kd.R Kd.string 9 wq w0.heap.size (fun k_ => some k_ = (Value.slice A8 ts.length c8).ownBlock) (.slice A8 ts.length c8) ts) ∧ aa (wq.heap[gb]? = some (.cells #[.int .i64 id, .string key, .slice (some ad) cs.length c2] 46 (0, 0))) ∧ aa (Below w0.heap.size w0 wq) ∧ aa (Kept w wq ok)) (fun _ v _ => match v with | .int _ i => ts.length - i.toNat | _ => 0)
    case atStart => exact ⟨0, L', rfl, Nat.zero_le _, HL2, HS4, HT, BK, HB, HK⟩
    case round =>
     clear HS4 HT BK HB HK HL2; obtain ⟨j, L3, rfl, hj, HL2, HS, HT, BK, HB, HK⟩ := hrel; rcases Nat.lt_or_ge j ts.length with hjlt | hjge
     ·have h := HL2.out; rw [List.drop_eq_getElem_cons hjlt, ch.ts] at h; have htc := (Kd.R_reads' HT.out).2.2; obtain ⟨ad8, e8, hy⟩ := rn htc j hjlt; subst e8; obtain ⟨ad', e', hx0, hx1⟩ := dk (HC.out wr HB.out HK.out) (i : Int) u7_ u7_; cases e'; rw [HRD.out] at hx0 hx1; simp only [Int.toNat_natCast] at hx0 hx1; have hz0 : wr.cell? ⟨gb, 0, none⟩ = some (.int .i64 id) := (bp BK.out 0).trans rfl; have hz2 : wr.cell? ⟨gb, 2, none⟩ = some (.slice (some ad) cs.length c2) := (bp BK.out 2).trans rfl; have q1 : ((j : Int) < (ts.length : Int)) = True := eq_true u7_; have q0 : (0 ≤ (j : Int)) = True := eq_true u7_; generalize ts[j] = tt at h hy; generalize hte : (!tt.toList.isEmpty) = bt; have hsz := qb tt hte; cases bt with
      | false =>
       rw [if_pos (by simpa using hsz)] at h; have HN := am_ h; clear h hsz htc; go_wp2; go_roundw
       case rel => exact ⟨j + 1, L3, gD, u7_, by simpa using HN, HS, HT, BK, HB, HK⟩
       case measure => simp; omega
      | true =>
       rw [if_neg (by simpa using hsz)] at h; obtain ⟨L4, hL4, h⟩ := Option.bind_eq_some_iff.1 h; have HN := am_ h; have HL4 := am_ hL4; clear h hsz htc hL4; go_wp2; refine wp_region_still_tail 15 bY bY ?_; simp only [List.take_succ_cons, List.take_zero, List.drop_succ_cons, List.drop_zero]; change wpStill _ _ (World.drew _) _ _ _
       repeat still_step
       refine wpStill_nil ?_; change wpList _ _ _ _ _ (World.drew _)
       have HS' := am_ (Kd.S_drew HS.out); have HT' := am_ (Kd.R_drew HT.out); have BK' := am_ (bG BK.out); have HB' := am_ (aN HB.out); have HK' := am_ (Kept.drew HK.out); clear hx0 hx1 hz0 hz2 hy HS HT BK HB HK; generalize wr.drew = w5 at HS' HT' BK' HB' HK' ⊢; go_wp2_with (first | (go_at_call 142; refine (co.calls k _ _ _ _ _ _ _ w0 _ _ HB'.out HS'.out HL4.out).mono ?_; rintro e w6 ⟨v6, rfl, hs, hb6, hk6⟩; have HS := am_ (Kd.S_mono hs (ok' := fun k_ => ((ok k_ ∨ w.heap.size ≤ k_) ∧ k_ ≠ gb) ∧ some k_ ≠ (Value.slice (some ad8) ts.length c8).ownBlock) (fun k_ hk => hk.elim (fun h2 => h2) (fun h2 => ⟨⟨.inr (Nat.le_trans HK'.out.1 h2), fun he => by have := dZ BK'.out; omega⟩, fun he => by have := Kd.R_lt HT'.out k_ he.symm; omega⟩))); have HT := am_ (Kd.R_kept HT'.out hk6 (fun k_ hk h2 => h2.2 hk)); have BK := am_ (cP BK'.out hk6 (fun h2 => h2.1.2 rfl)); have HK := am_ (Kept.then_ HK'.out hk6 (fun k_ h2 => h2.1.1)); have HB := am_ hb6; clear hs hk6 hb6 HS' HT' BK' HB' HK'))
       go_roundw
       case rel => exact ⟨j + 1, L4, gD, u7_, by simpa using HN, HS, HT, BK, HB, HK⟩
       case measure => simp; omega
     ·obtain rfl : j = ts.length := by omega
      have h := HL2.out; rw [List.drop_eq_nil_of_le (Nat.le_refl _), ch.ts] at h; obtain rfl := Option.some.inj h; have q1 : (((ts.length : Nat) : Int) < (ts.length : Int)) = False := eq_false u7_; clear h; go_wp2; go_roundw
      case rel => exact ⟨i + 1, _, gD, u7_, H2, ⟨Kd.S_mono HS.out (fun k_ hk => hk.1)⟩, BK, HB, HK⟩
      case measure => simp; omega
  ·obtain rfl : i = cs.length := by omega
   have h := H.out; rw [List.drop_eq_nil_of_le (Nat.le_refl _), ch.cs] at h; obtain rfl := Option.some.inj h; have hz2 : wr.cell? ⟨gb, 2, none⟩ = some (.slice A2 cs.length c2) := (bp BK.out 2).trans rfl; have p1 : (((cs.length : Nat) : Int) < (cs.length : Int)) = False := eq_false u7_; clear h; go_wp2; go_ret
   exact ⟨_, rfl, Kd.S_mono HS.out (fun k_ hk => hk.1), HB.out, HK.out⟩
def b4.f (k : Nat) (fs : List S92) (rows : List S46) : Option (List S76) := b4.rs k fs rows []
theorem b4.calls_ (k : Nat) (A0 : Option Addr) (c0 : Nat) (l0 : List S92) (A1 : Option Addr) (c1 : Nat) (l1 : List S46) (r : List S76) (w : World) (hr0 : Kd.C k92 w A0 l0.length l0) (hc0 : l0.length ≤ c0) (hr1 : Kd.C k46 w A1 l1.length l1) (hc1 : l1.length ≤ c1) (h : b4.f k l0 l1 = some r) :
  Calls Tryz.prog 55 #[.slice A0 l0.length c0, .slice A1 l1.length c1] w fun e w' => ∃ v : Value, e = .returned v ∧ Kd.S kE 76 w' w.heap.size (fun _ => True) v r ∧ Below w.heap.size w w' := by
 have hlen := hr1.2.1; have HF := am_ hr0; have HF0 := am_ hc0; have HR := am_ hr1; have H := am_ h; have HB := am_ (Below.refl w.heap.size w); have hu46_ := Tryz.underlying46; clear hr0 hc0 hr1 h; go_enter Tryz.func55, Tryz.ntmps55
 go_wp2_with (first | ((with_reducible refine aE (N := 7) rfl ?_); refine r8 (w0 := w) (B := w.heap.size) rfl (N := 7) ?hd ?hr HB.out HB.out.size ?_; (case hd => rfl); (case hr => exact u6_); intro v7 w2 hs hb; have HS := am_ hs; replace HB := am_ hb; clear hs hb))
 go_loopw [5, 6] (fun v5 v6 wr => ∃ (i : Nat) (L : List S76), v6 = .int .i64 (i : Int) ∧ i ≤ l1.length ∧ aa (b4.rs k l0 (l1.drop i) L = some r) ∧ aa (Kd.S kE 76 wr w.heap.size (fun _ => True) v5 L) ∧ aa (Below w.heap.size w wr)) (fun _ v _ => match v with | .int _ i => l1.length - i.toNat | _ => 0)
 case atStart => exact ⟨0, [], rfl, Nat.zero_le _, H, HS, HB⟩
 case round =>
  clear HS HB H; obtain ⟨i, L, rfl, hi, H, HS, HB⟩ := hrel; rcases Nat.lt_or_ge i l1.length with hlt | hge
  ·obtain ⟨ad, A2, c2, e, hx0, hx1, hx2, hcl, hcc⟩ := fj HR.out (i : Int) u7_ u7_; subst e; simp only [Int.toNat_natCast] at hx0 hx1 hx2; replace hx0 := ah HB.out hx0; replace hx1 := ah HB.out hx1; replace hx2 := ah HB.out hx2; have hrd : ab l1 (i : Int) = l1[i] := by unfold ab; simp [List.getD_eq_getElem?_getD, List.getElem?_eq_getElem hlt]
   rw [hrd] at hx0 hx1 hx2 hcl hcc; have h := H.out; rw [List.drop_eq_getElem_cons hlt, b4.rs] at h; generalize l1[i] = c at hx0 hx1 hx2 hcl hcc h; clear hrd; obtain ⟨L2, hL2, h⟩ := Option.bind_eq_some_iff.1 h; have HL2 := am_ hL2; have H2 := am_ h; have HCC := am_ hcc; have HCL := am_ hcl; have p1 : ((i : Int) < (l1.length : Int)) = True := eq_true u7_; have p0 : (0 ≤ (i : Int)) = True := eq_true u7_; clear h H hL2 hcc hcl; go_wp2_with (first | (go_at_call 101; refine (nf k _ _ _ _ _ _ _ _ _ _ _ w _ (fun k_ => w.heap.size ≤ k_) HB.out (Kd.S_mono (Kd.S_bound HS.out) (fun _ hk => hk.2.1)) (fun W hb _ => Kd.C_below HF.out hb) HF0.out (fun W hb _ => Kd.C_below HCC.out hb) HCL.out HL2.out).mono ?_; rintro e w6 ⟨v6, rfl, hs, hb6, hk6⟩; have HS2 := am_ (Kd.S_mono hs (ok' := fun _ => True) (fun _ _ => trivial)); have HB2 := am_ hb6; clear hs hb6 hk6 HS HB hx0 hx1 hx2))
   go_roundw
   case rel => exact ⟨i + 1, L2, gD, u7_, H2, HS2, HB2⟩
   case measure => simp; omega
  ·obtain rfl : i = l1.length := by omega
   have h := H.out; rw [List.drop_eq_nil_of_le (Nat.le_refl _), b4.rs] at h; obtain rfl := Option.some.inj h; have p1 : (((l1.length : Nat) : Int) < (l1.length : Int)) = False := eq_false u7_; clear h; go_wp2; go_ret
   exact ⟨_, rfl, HS.out, HB.out⟩
end
theorem b4.calls (k : Nat) (A0 : Option Addr) (c0 : Nat) (l0 : List (S92)) (A1 : Option Addr) (c1 : Nat) (l1 : List (S46)) (r : List (S76)) (w : World) (hr0 : Kd.C k92 w A0 l0.length l0) (hc0 : l0.length ≤ c0) (hr1 : Kd.C k46 w A1 l1.length l1) (hc1 : l1.length ≤ c1) (h : b4.f k l0 l1 = some r) :
  Calls Tryz.prog 55 #[.slice A0 l0.length c0, .slice A1 l1.length c1] w fun e w' => ∃ v0_ : Value, e = .returned (v0_) ∧ Kd.R k76 76 w' w.heap.size (fun _ => True) v0_ r ∧ Below w.heap.size w w' :=
 (b4.calls_ k A0 c0 l0 A1 c1 l1 r w hr0 hc0 hr1 hc1 h).mono fun _ _ ⟨v, he, hs, hb⟩ => ⟨v, he, Kd.S_R (pf hs), hb⟩
end
end Go.Proofs.YtnjjdojonflckaaGreatDoor.PFnExactIndexDoc
