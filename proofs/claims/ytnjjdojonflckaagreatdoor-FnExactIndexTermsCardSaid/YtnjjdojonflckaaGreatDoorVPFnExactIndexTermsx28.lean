/- Contracts of Go functions, each told as a plain Lean function. -/
import Derived.Test.YtnjjdojonflckaaGreatDoorVPFnExactIndexTermsx21
namespace Go.Proofs.YtnjjdojonflckaaGreatDoor.PFnExactIndexTerms
open Go.RowKit Go.Proofs.YtnjjdojonflckaaGreatDoorW.PrintWords Go.Proofs.YtnjjdojonflckaaGreatDoorW.PrintLast Go.Proofs.YtnjjdojonflckaaGreatDoorW.PrintMore
attribute [local go_sem] aY aW bS bV ct cr bx bw bQ bW
set_option linter.unusedVariables false
set_option linter.unusedSimpArgs false
set_option maxHeartbeats 8000000
set_option maxRecDepth 100000
def bP.l0 : Nat → List (dE) → List (S86) → Int → Option ((List (S86)))
 | 0, _, _, _ => none
 | k + 1, x0, x3, x4 => if x4 < (x0.length : Int) then (if 0 ≤ x4 then ((eR.f ((dZ x0 x4).f0) ((dZ x0 x4).f1)).bind fun bt446 => (if x4 < (x3.length : Int) then (bP.l0 k x0 (x3.set (x4 : Int).toNat (⟨bt446.1, bt446.2⟩ : S86)) (wrap64 (x4 + 1))) else (none))) else (none)) else (some x3)
def bP.f (k : Nat) (l0 : List (dE)) : Option ((List (S86))) := if 0 ≤ (l0.length : Int) then (if ((l0.length : Int) : Int).toNat ≤ 8796093022208 then (bP.l0 k l0 (List.replicate ((l0.length : Int) : Int).toNat z86) 0) else (none)) else (none)
theorem bP.calls (k : Nat) (A0 : Option Addr) (c0 : Nat) (l0 : List (dE)) (r : List (S86)) (w : World) (hr0 : Kd.C iz w A0 l0.length l0) (hc0 : l0.length ≤ c0) (h : bP.f k l0 = some r) :
  Calls Tryz.prog 164 #[.slice A0 l0.length c0] w fun e w' => ∃ v0_ : Value, e = .returned (v0_) ∧ Kd.R k86 86 w' w.heap.size (fun _ => True) v0_ r ∧ Below w.heap.size w w' := by
 have hu200 := Tryz.underlying200; have hu86 := Tryz.underlying86; have HR0 := am_ hr0; have HC0 := am_ hc0; clear hr0 hc0; have HB := am_ (Below.refl w.heap.size w); have H := h; clear h; unfold bP.f at H
 obtain ⟨c2b0, c2b1, H⟩ := ge_ H; obtain ⟨c3b0, c3b1, H⟩ := ge_ H; generalize hy442 : ((List.replicate ((l0.length : Int) : Int).toNat z86) : List (S86)) = y442 at H; have Ny442 := am_ hy442.symm; clear hy442; have H' := am_ H; clear H; go_enter Tryz.func164, Tryz.ntmps164
 go_wp2_with (first | ((with_reducible refine az (N := 7) rfl ?_); refine Kd.R_make k86 _ 86 rfl (N := 7) rfl 42 _ _ rfl (l0.length : Int) rfl rfl Tryz.underlying42 (.agg #[(.string ⟨#[]⟩), (.string ⟨#[]⟩)]) 32 info86 rfl bs u7_ z86 (ok := fun _ => True) (okp := fun _ => True) (pj _ _ _ z86 ) (fun _ hk => hk) trivial (od_) (Nat.le_trans (Nat.mul_le_mul_right _ (od_ : (l0.length : Int).toNat ≤ 8796093022208)) u7_) (Below.refl _ _) (Nat.le_refl _) ?_; intro v443 w4 ho5 hb hg_ hnew_; clear hg_ hnew_; (first | rw [← Ny442.out] at ho5 | (simp only [Int.reduceToNat] at ho5; rw [← Ny442.out] at ho5)); have HO444 := am_ (Kd.R_lower ho5 (av (bw_ HB))); replace HB := bs_ HB hb; clear hb ho5))
 go_loopg [4] k (fun kq v4 w' => ∃ (x3_1 : List (S86)) (x4_1 : Int), v4 = .int .i64 x4_1 ∧ aa (bP.l0 kq l0 x3_1 x4_1 = some r) ∧ aa (kq ≤ k) ∧ aa (Kd.R k86 86 w' w.heap.size (fun _ => True) v443 x3_1) ∧ aa (Below w.heap.size w w'))
 case atStart => exact ⟨(y442), (0), u1_, H', ⟨Nat.le_refl _⟩, ⟨aR_ HO444.out⟩, ⟨bw_ HB⟩⟩
 case round =>
  clear H'; try clear c2b0
  try clear c2b1
  try clear c3b0
  try clear c3b1
  obtain ⟨x3_1, x4_1, rfl, HA, HK1, HO_3, HB⟩ := hrel; cases gk with
  | zero => exact absurd HA.out (by simp [bP.l0])
  | succ k1 =>
   have H := HA.out; clear HA; simp only [bP.l0] at H; by_cases c6 : x4_1 < (l0.length : Int)
   ·rw [if_pos c6] at H; have c6b0 := decide_eq_true c6; clear c6; obtain ⟨c7b0, H⟩ := gd_ H; obtain ⟨⟨t446, t447⟩, A8, H⟩ := bi_ H; dsimp only at H; obtain ⟨c9b0, H⟩ := gd_ H; generalize hy448 : ((x3_1.set (x4_1 : Int).toNat (⟨t446, t447⟩ : S86)) : List (S86)) = y448 at H; have Ny448 := am_ hy448.symm; clear hy448; have H' := am_ H; clear H; obtain ⟨ad445, e445, hx445_0, hx445_1⟩ := pr HR0.out x4_1 od_ od_; cases e445; replace hx445_0 := cb_ HB hx445_0; replace hx445_1 := cb_ HB hx445_1; obtain ⟨p445, q445⟩ := pt_ x4_1 l0.length; go_wp2_with (first | ((with_reducible refine gt_ 20 ?_); refine gB_ 20 Tryz.func184 (eR.calls ((dZ l0 x4_1).f0) ((dZ l0 x4_1).f1) t446 t447 _ A8.out) ?_; intro w11 hb; replace HO_3 := am_ (Kd.R_below (aR_ HO_3.out) hb); replace HB := bs_ HB hb; (try clear hb); have p10 : 0 ≤ (x4_1 : Int) := od_; have q10 : (x4_1 : Int) < ((x3_1.length : Int) : Int) := od_; obtain ⟨go10, co10, eo10, gb10, gl10, cl10, HG10⟩ := Kd.R_form HO_3.out u7_; (first | cases eo10 | (injection eo10 with ea_ en_ ec_; (first | subst ea_ | (injection ea_ with ea_; subst ea_)); subst ec_; clear en_)); have GB10 := am_ gb10; have GG10 := am_ HG10; clear gb10 gl10 HG10; obtain ⟨ce10, hcl10, hM10, hcc10, hfr10⟩ := Kd.R_elem HO_3.out z86 (x4_1 : Int) p10 q10; obtain rfl := jB hM10; have hx10_0 : w11.cell? ⟨go10, (x4_1 : Int).toNat * 2, none⟩ = some (.string ((ah x3_1 x4_1).f0)) := hcc10 0 _ rfl; have hx10_1 : w11.cell? ⟨go10, (x4_1 : Int).toNat * 2 + 1, none⟩ = some (.string ((ah x3_1 x4_1).f1)) := hcc10 1 _ rfl; have hf10_0 : w11.frozen? ⟨go10, (x4_1 : Int).toNat * 2, none⟩ = false := hfr10 0; have hf10_1 : w11.frozen? ⟨go10, (x4_1 : Int).toNat * 2 + 1, none⟩ = false := hfr10 1; clear hcl10 hcc10 hfr10 hM10; obtain ⟨p10, q10⟩ := tt_ p10 q10; have HX12 := am_ (show Kd.R k86 86 w11 w.heap.size (fun _ => True) (.slice (some ⟨go10, 0, none⟩) x3_1.length co10) x3_1 from (aR_ HO_3.out)); obtain ⟨ce12, hcl12, hM12, hcc12, hfr12⟩ := Kd.R_elem HX12.out z86 (x4_1 : Int) (od_) (by have h_ : (x4_1 : Int) < ((x3_1.length : Int) : Int) := od_; first | exact h_ | (have e_ := (Kd.R_reads' HO_3.out).1; omega) | simpa using h_); obtain rfl := jB hM12; have HP12 := Kd.R_seg HX12.out (x4_1 : Int) (od_) (by have h_ : (x4_1 : Int) < ((x3_1.length : Int) : Int) := od_; first | exact h_ | (have e_ := (Kd.R_reads' HO_3.out).1; omega) | simpa using h_) (seg := [.string t446, .string t447]) (j := 0) hcl12 hcc12 (show 2 ≤ 2 from bs) (x' := (⟨t446, t447⟩ : S86)) (pj _ _ _ (⟨t446, t447⟩ : S86) ) (fun _ hk => hk); have hx12_0 := hcc12 0 _ rfl; (try simp only [show (k86).sz = 2 from rfl, Nat.mul_one, Nat.add_zero] at hx12_0); have hf12_0 := hfr12 0; (try simp only [show (k86).sz = 2 from rfl, Nat.mul_one, Nat.add_zero] at hf12_0); have hx12_1 := hcc12 1 _ rfl; (try simp only [show (k86).sz = 2 from rfl, Nat.mul_one, Nat.add_zero] at hx12_1); have hf12_1 := hfr12 1; (try simp only [show (k86).sz = 2 from rfl, Nat.mul_one, Nat.add_zero] at hf12_1); clear hcl12 hcc12 hfr12 hM12) | ((with_reducible refine eI (t := 86) (p := 21) rfl ?_); refine d9 (t := 86) (p := 21) (v := ?vo_w13) (w1 := ((w11.setCell ⟨go10, (x4_1 : Int).toNat * 2, none⟩ (.string t446)).setCell ⟨go10, (x4_1 : Int).toNat * 2 + 1, none⟩ (.string t447))) ?hg ?ho ?hn ?hr ?_; (case ho => rfl); (case hg => rfl); (case hn => rfl); (case hr => exact u6_); intro w13 hw; have hg : w11.grownBy w13 (some go10) := (by rw [hw]; exact HP12.2); have hp_ : Kd.R k86 86 w13 w.heap.size (fun _ => True) (.slice (some ⟨go10, 0, none⟩) x3_1.length co10) y448 := (by rw [hw, Ny448.out]; exact HP12.1); clear HP12; replace HO_3 := am_ (hp_); replace HB := am_ ((by rw [hw]; exact bj (bj (HB.out) GB10.out) GB10.out : Below w.heap.size w w13)); clear hg hw hp_))
    go_roundg k1
    case measure => have := HK1.out; omega
    case rel => exact ⟨(y448), (wrap64 (x4_1 + 1)), u1_, H', ⟨dc⟩, ⟨aR_ HO_3.out⟩, ⟨bw_ HB⟩⟩
   ·rw [if_neg c6] at H; have c6b0 := decide_eq_false c6; clear c6; obtain rfl := si_ H; go_wp2; go_ret
    exact ⟨_, u0_, aR_ HO_3.out, bw_ HB⟩
def eN.f (k : Nat) (a0_0 : ByteArray) (l0_1 : List (dE)) : Option (ByteArray × (List (S86))) := (bP.f k l0_1).bind fun t452 => (some (a0_0, t452))
theorem eN.calls (k : Nat) (a0_0 : ByteArray) (A0_1 : Option Addr) (c0_1 : Nat) (l0_1 : List (dE)) (r1 : ByteArray) (r2 : List (S86)) (w : World) (hr0_1 : Kd.C iz w A0_1 l0_1.length l0_1) (hc0_1 : l0_1.length ≤ c0_1) (h : eN.f k a0_0 l0_1 = some (r1, r2)) :
  Calls Tryz.prog 145 #[.agg #[.string a0_0, .slice A0_1 l0_1.length c0_1]] w fun e w' => ∃ v1_ : Value, e = .returned (.agg #[.string r1, v1_]) ∧ Kd.R k86 86 w' w.heap.size (fun _ => True) v1_ r2 ∧ Below w.heap.size w w' := by
 have hu131 := Tryz.underlying131; have hu44 := Tryz.underlying44; have HR0_1 := am_ hr0_1; have HC0_1 := am_ hc0_1; clear hr0_1 hc0_1; have HB := am_ (Below.refl w.heap.size w); have H := h; clear h; unfold eN.f at H
 obtain ⟨t452, A2, H⟩ := bi_ H; simp only [Option.some.injEq, Prod.mk.injEq] at H; obtain ⟨rfl, rfl⟩ := H; go_enter Tryz.func145, Tryz.ntmps145
 go_wp2_with (first | ((with_reducible refine gt_ 1 ?_); refine bx_ 1 #[.string a0_0, .slice A0_1 l0_1.length c0_1] 131 ?_; intro gb449 hg w3 hbox hb; have BK449 := am_ (hbox); have GE449 := gw_ HB hg; replace HB := bs_ HB hb; clear hb hbox hg) | ((with_reducible refine gt_ 2 ?_); refine bx_ 2 #[.string (⟨#[]⟩ : ByteArray), .slice none 0 0] 44 ?_; intro gb450 hg w4 hbox hb; have BK450 := am_ (hbox); have GE450 := gw_ HB hg; replace HB := bs_ HB hb; have NB449_450 := nl_ BK449 hg; have NB450_449 := ng_ BK449 hg; replace BK449 := bb_ BK449 hb; clear hb hbox hg) | ((with_reducible refine gt_ 3 ?_); refine bx_ 3 #[.string (⟨#[]⟩ : ByteArray), .slice none 0 0] 44 ?_; intro gb451 hg w5 hbox hb; have BK451 := am_ (hbox); have GE451 := gw_ HB hg; replace HB := bs_ HB hb; have NB449_451 := nl_ BK449 hg; have NB451_449 := ng_ BK449 hg; replace BK449 := bb_ BK449 hb; have NB450_451 := nl_ BK450 hg; have NB451_450 := ng_ BK450 hg; replace BK450 := bb_ BK450 hb; clear hb hbox hg; have hnb6 := NB449_450.out; have hnc6 := NB450_449.out; have hnb7 := NB449_451.out; have hnc7 := NB451_449.out; obtain ⟨hcz8_0, hcz8_1, hfz8_0, hfz8_1⟩ := bK BK449.out; have hnb9 := NB451_450.out; have hnc9 := NB450_451.out; obtain ⟨hcz10_0, hcz10_1, hfz10_0, hfz10_1⟩ := bK BK451.out) | ((with_reducible refine gt_ 9 ?_); refine gf_ 9 Tryz.func164 (bP.calls k _ _ l0_1 t452 _ (kc_ HR0_1 HB) HC0_1.out A2.out) ?_; rintro e w11 ⟨v453, rfl, ho0, hb⟩; refine ⟨_, rfl, ?_⟩; have HO454 := am_ (Kd.R_lower ho0 (av (bw_ HB))); replace BK450 := bb_ BK450 hb; replace BK451 := am_ (aU (g := gb451) (o := .cells #[.string a0_0, .slice none 0 0] 44 (0, 0)) (pb_ BK451) hb); replace HB := bs_ HB hb; (try clear hb); (try clear ho0); obtain ⟨Ao12, co12, eo12⟩ := Kd.R_slice HO454.out; subst eo12; obtain ⟨hcz13_0, hcz13_1, hfz13_0, hfz13_1⟩ := bK BK451.out; obtain ⟨hcz14_0, hcz14_1, hfz14_0, hfz14_1⟩ := bK BK450.out))
 refine bodyPost_ret (results_cell_row rfl _ _ gb450 44 #[.string a0_0, .slice Ao12 t452.length co12] (0, 0) _ rfl (pb_ BK450) Tryz.underlying44 rfl b9) rfl ?_; exact ⟨_, u0_, by (with_reducible repeat (first | apply Kd.R_alloc | apply Kd.R_drewN | apply Kd.R_drew)); exact Kd.R_mono (Kd.R_far (p := ⟨gb450, 1, none⟩) (Kd.R_far (p := ⟨gb450, 0, none⟩) (Kd.R_far (p := ⟨gb451, 1, none⟩) (Kd.R_types (Kd.R_types HO454.out BK451.out bs) BK450.out bs) (fun _ hk => hk.1.2) (.slice Ao12 t452.length co12)) (fun _ hk => hk.2) (.string a0_0)) (fun _ hk => hk.2) (.slice Ao12 t452.length co12)) (fun _ hk => trivial), bw_ HB⟩
def eJ.f (k : Nat) (a0_0 : Int) (a0_1 : ByteArray) (l0_2 : List (dE)) : Option (Int × ByteArray × (List (S86))) := (eN.f k a0_1 l0_2).bind fun bt458 => (some (a0_0, bt458.1, bt458.2))
theorem eJ.calls (k : Nat) (a0_0 : Int) (a0_1 : ByteArray) (A0_2 : Option Addr) (c0_2 : Nat) (l0_2 : List (dE)) (r1 : Int) (r2 : ByteArray) (r3 : List (S86)) (w : World) (hr0_2 : Kd.C iz w A0_2 l0_2.length l0_2) (hc0_2 : l0_2.length ≤ c0_2) (h : eJ.f k a0_0 a0_1 l0_2 = some (r1, r2, r3)) :
  Calls Tryz.prog 106 #[.agg #[.int .i64 a0_0, .string a0_1, .slice A0_2 l0_2.length c0_2]] w fun e w' => ∃ v2_ : Value, e = .returned (.agg #[.int .i64 r1, .string r2, v2_]) ∧ Kd.R k86 86 w' w.heap.size (fun _ => True) v2_ r3 ∧ Below w.heap.size w w' := by
 have hu133 := Tryz.underlying133; have hu46 := Tryz.underlying46; have hu131 := Tryz.underlying131; have hu44 := Tryz.underlying44; have HR0_2 := am_ hr0_2; have HC0_2 := am_ hc0_2; clear hr0_2 hc0_2; have HB := am_ (Below.refl w.heap.size w); have H := h; clear h; unfold eJ.f at H
 obtain ⟨⟨t458, t459⟩, A2, H⟩ := bi_ H; dsimp only at H; simp only [Option.some.injEq, Prod.mk.injEq] at H; obtain ⟨rfl, rfl, rfl⟩ := H; go_enter Tryz.func106, Tryz.ntmps106
 go_wp2_with (first | ((with_reducible refine gt_ 1 ?_); refine bx_ 1 #[.int .i64 a0_0, .string a0_1, .slice A0_2 l0_2.length c0_2] 133 ?_; intro gb455 hg w3 hbox hb; have BK455 := am_ (hbox); have GE455 := gw_ HB hg; replace HB := bs_ HB hb; clear hb hbox hg) | ((with_reducible refine gt_ 2 ?_); refine bx_ 2 #[.int .i64 0, .string (⟨#[]⟩ : ByteArray), .slice none 0 0] 46 ?_; intro gb456 hg w4 hbox hb; have BK456 := am_ (hbox); have GE456 := gw_ HB hg; replace HB := bs_ HB hb; have NB455_456 := nl_ BK455 hg; have NB456_455 := ng_ BK455 hg; replace BK455 := bb_ BK455 hb; clear hb hbox hg) | ((with_reducible refine gt_ 3 ?_); refine bx_ 3 #[.int .i64 0, .string (⟨#[]⟩ : ByteArray), .slice none 0 0] 46 ?_; intro gb457 hg w5 hbox hb; have BK457 := am_ (hbox); have GE457 := gw_ HB hg; replace HB := bs_ HB hb; have NB455_457 := nl_ BK455 hg; have NB457_455 := ng_ BK455 hg; replace BK455 := bb_ BK455 hb; have NB456_457 := nl_ BK456 hg; have NB457_456 := ng_ BK456 hg; replace BK456 := bb_ BK456 hb; clear hb hbox hg; have hnb6 := NB455_456.out; have hnc6 := NB456_455.out; have hnb7 := NB455_457.out; have hnc7 := NB457_455.out; obtain ⟨hcz8_0, hcz8_1, hcz8_2, hfz8_0, hfz8_1, hfz8_2⟩ := bO BK455.out; have hnb9 := NB457_456.out; have hnc9 := NB456_457.out; obtain ⟨hcz10_0, hcz10_1, hcz10_2, hfz10_0, hfz10_1, hfz10_2⟩ := bO BK457.out) | ((with_reducible refine gt_ 9 ?_); refine gf_ 9 Tryz.func145 (eN.calls k a0_1 _ _ l0_2 t458 t459 _ (kc_ HR0_2 HB) HC0_2.out A2.out) ?_; rintro e w11 ⟨v460, rfl, ho0, hb⟩; refine ⟨_, rfl, ?_⟩; have HO461 := am_ (Kd.R_lower ho0 (av (bw_ HB))); replace BK456 := bb_ BK456 hb; replace BK457 := am_ (aU (g := gb457) (o := .cells #[.int .i64 a0_0, .string (⟨#[]⟩ : ByteArray), .slice none 0 0] 46 (0, 0)) (pb_ BK457) hb); replace HB := bs_ HB hb; (try clear hb); (try clear ho0); obtain ⟨hcz12_0, hcz12_1, hcz12_2, hfz12_0, hfz12_1, hfz12_2⟩ := bO BK457.out; obtain ⟨Ao13, co13, eo13⟩ := Kd.R_slice HO461.out; subst eo13; obtain ⟨hcz14_0, hcz14_1, hcz14_2, hfz14_0, hfz14_1, hfz14_2⟩ := bO BK456.out))
 refine bodyPost_ret (results_cell_row rfl _ _ gb456 46 #[.int .i64 a0_0, .string t458, .slice Ao13 t459.length co13] (0, 0) _ rfl (pb_ BK456) Tryz.underlying46 rfl b9) rfl ?_; exact ⟨_, u0_, by (with_reducible repeat (first | apply Kd.R_alloc | apply Kd.R_drewN | apply Kd.R_drew)); exact Kd.R_mono (Kd.R_far (p := ⟨gb456, 2, none⟩) (Kd.R_far (p := ⟨gb456, 1, none⟩) (Kd.R_far (p := ⟨gb456, 0, none⟩) (Kd.R_far (p := ⟨gb457, 2, none⟩) (Kd.R_far (p := ⟨gb457, 1, none⟩) (Kd.R_types (Kd.R_types HO461.out BK457.out bs) BK456.out bs) (fun _ hk => hk.1.2) (.string t458)) (fun _ hk => hk.1.2) (.slice Ao13 t459.length co13)) (fun _ hk => hk.2) (.int .i64 a0_0)) (fun _ hk => hk.2) (.string t458)) (fun _ hk => hk.2) (.slice Ao13 t459.length co13)) (fun _ hk => trivial), bw_ HB⟩
def cg.l0 : Nat → List (dW) → List (S46) → Int → Option ((List (S46)))
 | 0, _, _, _ => none
 | k + 1, x0, x3, x4 => if x4 < (x0.length : Int) then (if 0 ≤ x4 then ((eJ.f k ((cY x0 x4).f0) ((cY x0 x4).f1.f0) ((cY x0 x4).f1.f1)).bind fun bt466 => (if x4 < (x3.length : Int) then (cg.l0 k x0 (x3.set (x4 : Int).toNat (⟨bt466.1, (⟨bt466.2.1, bt466.2.2⟩ : S44)⟩ : S46)) (wrap64 (x4 + 1))) else (none))) else (none)) else (some x3)
def cg.f (k : Nat) (l0 : List (dW)) : Option ((List (S46))) := if 0 ≤ (l0.length : Int) then (if ((l0.length : Int) : Int).toNat ≤ 5864062014805 then (cg.l0 k l0 (List.replicate ((l0.length : Int) : Int).toNat z46) 0) else (none)) else (none)
theorem cg.calls (k : Nat) (A0 : Option Addr) (c0 : Nat) (l0 : List (dW)) (r : List (S46)) (w : World) (hr0 : Kd.C n7 w A0 l0.length l0) (hc0 : l0.length ≤ c0) (h : cg.f k l0 = some r) :
  Calls Tryz.prog 61 #[.slice A0 l0.length c0] w fun e w' => ∃ v0_ : Value, e = .returned (v0_) ∧ Kd.S k46 46 w' w.heap.size (fun _ => True) v0_ r ∧ Below w.heap.size w w' := by
 have hu133 := Tryz.underlying133; have hu46 := Tryz.underlying46; have HR0 := am_ hr0; have HC0 := am_ hc0; clear hr0 hc0; have HB := am_ (Below.refl w.heap.size w); have H := h; clear h; unfold cg.f at H
 obtain ⟨c2b0, c2b1, H⟩ := ge_ H; obtain ⟨c3b0, c3b1, H⟩ := ge_ H; generalize hy462 : ((List.replicate ((l0.length : Int) : Int).toNat z46) : List (S46)) = y462 at H; have Ny462 := am_ hy462.symm; clear hy462; have H' := am_ H; clear H; go_enter Tryz.func61, Tryz.ntmps61
 go_wp2_with (first | ((with_reducible refine az (N := 7) rfl ?_); refine Kd.S_make k46 _ 46 rfl (N := 7) rfl 24 _ _ rfl (l0.length : Int) rfl rfl Tryz.underlying24 (.agg #[(.int .i64 0), (.string ⟨#[]⟩), (.slice none 0 0)]) 48 info46 rfl bs u7_ z46 (ok := fun _ => True) (okp := fun _ => True) (pz _ _ _ z46 (Kd.R_nil _ _ _ _ _)) (fun _ hk => hk) trivial (od_) (Nat.le_trans (Nat.mul_le_mul_right _ (od_ : (l0.length : Int).toNat ≤ 5864062014805)) u7_) (Below.refl _ _) (Nat.le_refl _) ?_; intro v463 w4 ho5 hb hg_ hnew_; clear hg_ hnew_; (first | rw [← Ny462.out] at ho5 | (simp only [Int.reduceToNat] at ho5; rw [← Ny462.out] at ho5)); have HO464 := am_ (Kd.S_lower ho5 (av (bw_ HB))); replace HB := bs_ HB hb; clear hb ho5))
 go_loopg [4] k (fun kq v4 w' => ∃ (x3_1 : List (S46)) (x4_1 : Int), v4 = .int .i64 x4_1 ∧ aa (cg.l0 kq l0 x3_1 x4_1 = some r) ∧ aa (kq ≤ k) ∧ aa (Kd.S k46 46 w' w.heap.size (fun _ => True) v463 x3_1) ∧ aa (Below w.heap.size w w'))
 case atStart => exact ⟨(y462), (0), u1_, H', ⟨Nat.le_refl _⟩, ⟨aS_ HO464.out⟩, ⟨bw_ HB⟩⟩
 case round =>
  clear H'; try clear c2b0
  try clear c2b1
  try clear c3b0
  try clear c3b1
  obtain ⟨x3_1, x4_1, rfl, HA, HK1, HO_3, HB⟩ := hrel; cases gk with
  | zero => exact absurd HA.out (by simp [cg.l0])
  | succ k1 =>
   have H := HA.out; clear HA; simp only [cg.l0] at H; by_cases c6 : x4_1 < (l0.length : Int)
   ·rw [if_pos c6] at H; have c6b0 := decide_eq_true c6; clear c6; obtain ⟨c7b0, H⟩ := gd_ H; obtain ⟨⟨t466, t467, t468⟩, A8, H⟩ := bi_ H; dsimp only at H; obtain ⟨c9b0, H⟩ := gd_ H; generalize hy471 : ((x3_1.set (x4_1 : Int).toNat (⟨t466, (⟨t467, t468⟩ : S44)⟩ : S46)) : List (S46)) = y471 at H; have Ny471 := am_ hy471.symm; clear hy471; have H' := am_ H; clear H; obtain ⟨ad465, A465_2, c465_2, e465, hx465_0, hx465_1, hx465_2, hl465_2, hi465_2⟩ := pE HR0.out x4_1 od_ od_; cases e465; replace hx465_0 := cb_ HB hx465_0; replace hx465_1 := cb_ HB hx465_1; replace hx465_2 := cb_ HB hx465_2; have HR465_2 := am_ hi465_2; have HC465_2 := am_ hl465_2; clear hi465_2 hl465_2; obtain ⟨p465, q465⟩ := pt_ x4_1 l0.length; go_wp2_with (first | ((with_reducible refine gt_ 20 ?_); refine gf_ 20 Tryz.func106 (eJ.calls k1 ((cY l0 x4_1).f0) ((cY l0 x4_1).f1.f0) _ _ ((cY l0 x4_1).f1.f1) t466 t467 t468 _ (kc_ HR465_2 HB) HC465_2.out A8.out) ?_; rintro e w11 ⟨v469, rfl, ho0, hb⟩; refine ⟨_, rfl, ?_⟩; replace HO_3 := am_ (Kd.S_elder' (aS_ HO_3.out) (Kd.R_base ho0) hb); have HO470 := am_ (Kd.R_lower ho0 (av (bw_ HB))); replace HB := bs_ HB hb; (try clear hb); (try clear ho0); have p10 : 0 ≤ (x4_1 : Int) := od_; have q10 : (x4_1 : Int) < ((x3_1.length : Int) : Int) := od_; obtain ⟨go10, co10, eo10, gb10, gl10, cl10, HG10⟩ := Kd.S_form HO_3.out u7_; (first | cases eo10 | (injection eo10 with ea_ en_ ec_; (first | subst ea_ | (injection ea_ with ea_; subst ea_)); subst ec_; clear en_)); have GB10 := am_ gb10; have GG10 := am_ HG10; clear gb10 gl10 HG10; obtain ⟨_, ce10, hcl10, hM10, hcc10, hfr10, _, _⟩ := Kd.S_elem HO_3.out z46 (x4_1 : Int) p10 q10; obtain ⟨ve10_2, rfl, ge10_2⟩ := jb hM10; have hx10_0 : w11.cell? ⟨go10, (x4_1 : Int).toNat * 3, none⟩ = some (.int .i64 ((ac x3_1 x4_1).f0)) := hcc10 0 _ rfl; have hx10_1 : w11.cell? ⟨go10, (x4_1 : Int).toNat * 3 + 1, none⟩ = some (.string ((ac x3_1 x4_1).f1.f0)) := hcc10 1 _ rfl; have hx10_2 : w11.cell? ⟨go10, (x4_1 : Int).toNat * 3 + 2, none⟩ = some (ve10_2) := hcc10 2 _ rfl; have hf10_0 : w11.frozen? ⟨go10, (x4_1 : Int).toNat * 3, none⟩ = false := hfr10 0; have hf10_1 : w11.frozen? ⟨go10, (x4_1 : Int).toNat * 3 + 1, none⟩ = false := hfr10 1; have hf10_2 : w11.frozen? ⟨go10, (x4_1 : Int).toNat * 3 + 2, none⟩ = false := hfr10 2; clear hcl10 hcc10 hfr10 hM10; obtain ⟨p10, q10⟩ := tt_ p10 q10; have n_ := am_ (Kd.S_mono (ok' := (fun k_ => some k_ ≠ (v469 : Value).ownBlock)) HO_3.out (fun k_ hk => hk.2)); clear HO_3; have HO_3 := n_; clear n_; have HX12 := am_ (show Kd.S k46 46 w11 w.heap.size (fun k_ => ((fun _ => True)) k_ ∧ ¬ ((fun k_ => some k_ = (v469 : Value).ownBlock)) k_) (.slice (some ⟨go10, 0, none⟩) x3_1.length co10) x3_1 from u62_); obtain ⟨oki12, ce12, hcl12, hM12, hcc12, hfr12, hoki12, hH12⟩ := Kd.S_elem HX12.out z46 (x4_1 : Int) (od_) (by have h_ : (x4_1 : Int) < ((x3_1.length : Int) : Int) := od_; first | exact h_ | (have e_ := (Kd.S_reads' HO_3.out).1; omega) | simpa using h_); obtain ⟨ve12_2, rfl, ge12_2⟩ := jb hM12; have HP12 := Kd.S_seg hH12 (od_) (by have h_ : (x4_1 : Int) < ((x3_1.length : Int) : Int) := od_; first | exact h_ | (have e_ := (Kd.S_reads' HO_3.out).1; omega) | simpa using h_) (seg := [.int .i64 t466, .string t467, v469]) (j := 0) (show 3 ≤ 3 from bs) (x' := (⟨t466, (⟨t467, t468⟩ : S44)⟩ : S46)) (pz _ _ _ (⟨t466, (⟨t467, t468⟩ : S44)⟩ : S46) (Kd.R_mono (Kd.R_tight rfl (Kd.R_mono (ok' := fun k_ => ((fun _ => True)) k_ ∧ k_ ≠ go10) (Kd.R_apart' (HO470.out) (Kd.S_typed HO_3.out) bs) (fun k_ hk => ⟨trivial, fun e_ => (hk.2) (by rw [e_]; rfl)⟩))) (fun _ h_ => Or.inr (h_)))) (fun _ hk => hk) (fun k_ hk_ => ((Kd.R_mono (ok' := fun k_ => ((fun _ => True)) k_ ∧ k_ ≠ go10) (Kd.R_apart' (HO470.out) (Kd.S_typed HO_3.out) bs) (fun k_ hk => ⟨trivial, fun e_ => (hk.2) (by rw [e_]; rfl)⟩))).1 k_ hk_.symm); have hx12_0 := hcc12 0 _ rfl; (try simp only [show (k46).sz = 3 from rfl, Nat.mul_one, Nat.add_zero] at hx12_0); have hf12_0 := hfr12 0; (try simp only [show (k46).sz = 3 from rfl, Nat.mul_one, Nat.add_zero] at hf12_0); have hx12_1 := hcc12 1 _ rfl; (try simp only [show (k46).sz = 3 from rfl, Nat.mul_one, Nat.add_zero] at hx12_1); have hf12_1 := hfr12 1; (try simp only [show (k46).sz = 3 from rfl, Nat.mul_one, Nat.add_zero] at hf12_1); have hx12_2 := hcc12 2 _ rfl; (try simp only [show (k46).sz = 3 from rfl, Nat.mul_one, Nat.add_zero] at hx12_2); have hf12_2 := hfr12 2; (try simp only [show (k46).sz = 3 from rfl, Nat.mul_one, Nat.add_zero] at hf12_2); clear hcl12 hcc12 hfr12 hM12 hoki12 hH12) | ((with_reducible refine eI (t := 46) (p := 21) rfl ?_); refine d9 (t := 46) (p := 21) (v := ?vo_w13) (w1 := (((w11.setCell ⟨go10, (x4_1 : Int).toNat * 3, none⟩ (.int .i64 t466)).setCell ⟨go10, (x4_1 : Int).toNat * 3 + 1, none⟩ (.string t467)).setCell ⟨go10, (x4_1 : Int).toNat * 3 + 2, none⟩ (v469))) ?hg ?ho ?hn ?hr ?_; (case ho => rfl); (case hg => rfl); (case hn => rfl); (case hr => first | (go_simp; done) | (go_simp; rfl) | (obtain ⟨_, _, e_⟩ := Kd.R_slice HO470.out; subst e_; first | (go_simp; done) | (go_simp; rfl))); intro w13 hw; have hg : w11.grownBy w13 (some go10) := (by rw [hw]; exact HP12.2); have hp_ : Kd.S k46 46 w13 w.heap.size (fun _ => True) (.slice (some ⟨go10, 0, none⟩) x3_1.length co10) y471 := (by rw [hw, Ny471.out]; exact HP12.1); clear HP12; replace HO_3 := am_ (hp_); replace HB := am_ ((by rw [hw]; exact bj (bj (bj (HB.out) GB10.out) GB10.out) GB10.out : Below w.heap.size w w13)); clear HO470 hg hw hp_))
    go_roundg k1
    case measure => have := HK1.out; omega
    case rel => exact ⟨(y471), (wrap64 (x4_1 + 1)), u1_, H', ⟨dc⟩, ⟨aS_ HO_3.out⟩, ⟨bw_ HB⟩⟩
   ·rw [if_neg c6] at H; have c6b0 := decide_eq_false c6; clear c6; obtain rfl := si_ H; go_wp2; go_ret
    exact ⟨_, u0_, aS_ HO_3.out, bw_ HB⟩
def ch.l0 : Nat → List Int → List Int → Int → Option (List Int)
 | 0, _, _, _ => none
 | k + 1, x0, x3, x4 => if x4 < (x0.length : Int) then (if 0 ≤ x4 then (if x4 < (x3.length : Int) then (ch.l0 k x0 (x3.set (x4 : Int).toNat (rd x0 x4)) (wrap64 (x4 + 1))) else (none)) else (none)) else (some x3)
def ch.f (k : Nat) (l0 : List Int) : Option (List Int) := if 0 ≤ (l0.length : Int) then (if ((l0.length : Int) : Int).toNat ≤ 35184372088832 then (ch.l0 k l0 (List.replicate ((l0.length : Int) : Int).toNat 0) 0) else (none)) else (none)
theorem ch.calls (k : Nat) (A0 : Option Addr) (c0 : Nat) (l0 : List Int) (r : List Int) (w : World) (hr0 : Kd.C (Kd.int .i64) w A0 l0.length l0) (hc0 : l0.length ≤ c0) (h : ch.f k l0 = some r) :
  Calls Tryz.prog 185 #[.slice A0 l0.length c0] w fun e w' => ∃ v0_ : Value, e = .returned (v0_) ∧ Kd.R (Kd.int .i64) 3 w' w.heap.size (fun _ => True) v0_ r ∧ Below w.heap.size w w' := by
 have HR0 := am_ hr0; have HC0 := am_ hc0; clear hr0 hc0; have HB := am_ (Below.refl w.heap.size w); have H := h; clear h; unfold ch.f at H
 obtain ⟨c2b0, c2b1, H⟩ := ge_ H; obtain ⟨c3b0, c3b1, H⟩ := ge_ H; generalize hy472 : ((List.replicate ((l0.length : Int) : Int).toNat 0) : List Int) = y472 at H; have Ny472 := am_ hy472.symm; clear hy472; have H' := am_ H; clear H; go_enter Tryz.func185, Tryz.ntmps185
 go_wp2_with (first | ((with_reducible refine az (N := 7) rfl ?_); refine Kd.R_make (Kd.int .i64) _ 3 rfl (N := 7) rfl 39 _ _ rfl (l0.length : Int) rfl rfl Tryz.underlying39 (.int .i64 0) 8 rE rfl bs u7_ 0 (ok := fun _ => True) (okp := fun _ => True) rfl (fun _ hk => hk) trivial (od_) (Nat.le_trans (Nat.mul_le_mul_right _ (od_ : (l0.length : Int).toNat ≤ 35184372088832)) u7_) (Below.refl _ _) (Nat.le_refl _) ?_; intro v473 w4 ho5 hb hg_ hnew_; clear hg_ hnew_; (first | rw [← Ny472.out] at ho5 | (simp only [Int.reduceToNat] at ho5; rw [← Ny472.out] at ho5)); have HO474 := am_ (Kd.R_lower ho5 (av (bw_ HB))); replace HB := bs_ HB hb; clear hb ho5))
 go_loopg [4] k (fun kq v4 w' => ∃ (x3_1 : List Int) (x4_1 : Int), v4 = .int .i64 x4_1 ∧ aa (ch.l0 kq l0 x3_1 x4_1 = some r) ∧ aa (kq ≤ k) ∧ aa (Kd.R (Kd.int .i64) 3 w' w.heap.size (fun _ => True) v473 x3_1) ∧ aa (Below w.heap.size w w'))
 case atStart => exact ⟨(y472), (0), u1_, H', ⟨Nat.le_refl _⟩, ⟨aR_ HO474.out⟩, ⟨bw_ HB⟩⟩
 case round =>
  clear H'; try clear c2b0
  try clear c2b1
  try clear c3b0
  try clear c3b1
  obtain ⟨x3_1, x4_1, rfl, HA, HK1, HO_3, HB⟩ := hrel; cases gk with
  | zero => exact absurd HA.out (by simp [ch.l0])
  | succ k1 =>
   have H := HA.out; clear HA; simp only [ch.l0] at H; by_cases c6 : x4_1 < (l0.length : Int)
   ·rw [if_pos c6] at H; have c6b0 := decide_eq_true c6; clear c6; obtain ⟨c7b0, H⟩ := gd_ H; obtain ⟨c8b0, H⟩ := gd_ H; generalize hy476 : ((x3_1.set (x4_1 : Int).toNat (rd l0 x4_1)) : List Int) = y476 at H; have Ny476 := am_ hy476.symm; clear hy476; have H' := am_ H; clear H; obtain ⟨ad475, e475, hx475_0⟩ := Kd.at_int HR0.out x4_1 od_ od_; cases e475; replace hx475_0 := cb_ HB hx475_0; obtain ⟨p475, q475⟩ := pt_ x4_1 l0.length; have p9 : 0 ≤ (x4_1 : Int) := od_; have q9 : (x4_1 : Int) < ((x3_1.length : Int) : Int) := od_; obtain ⟨go9, co9, eo9, gb9, gl9, cl9, HG9⟩ := Kd.R_form HO_3.out u7_; (first | cases eo9 | (injection eo9 with ea_ en_ ec_; (first | subst ea_ | (injection ea_ with ea_; subst ea_)); subst ec_; clear en_))
    have GB9 := am_ gb9; have GG9 := am_ HG9; clear gb9 gl9 HG9; obtain ⟨hx9_0, hf9_0⟩ := Kd.R_celln 0 HO_3.out (x4_1 : Int) p9 q9; obtain ⟨p9, q9⟩ := tt_ p9 q9; have HP10 := Kd.R_putg HO_3.out (x4_1 : Int) (rd l0 x4_1); go_wp2_with (first | ((with_reducible refine eI (t := 3) (p := 20) rfl ?_); refine d9 (t := 3) (p := 20) (v := ?vo_w11) (w1 := (wr.setCell ⟨go9, (x4_1 : Int).toNat, none⟩ (.int .i64 (rd l0 x4_1)))) ?hg ?ho ?hn ?hr ?_; (case ho => rfl); (case hg => rfl); (case hn => rfl); (case hr => exact u6_); intro w11 hw; have hg : wr.grownBy w11 (some go9) := (by rw [hw]; exact HP10.2); have hp_ : Kd.R (Kd.int .i64) 3 w11 w.heap.size (fun _ => True) (.slice (some ⟨go9, 0, none⟩) x3_1.length co9) y476 := (by rw [hw, Ny476.out]; exact HP10.1); clear HP10; replace HO_3 := am_ (hp_); replace HB := am_ ((by rw [hw]; exact bj (HB.out) GB9.out : Below w.heap.size w w11)); clear hg hw hp_))
    go_roundg k1
    case measure => have := HK1.out; omega
    case rel => exact ⟨(y476), (wrap64 (x4_1 + 1)), u1_, H', ⟨dc⟩, ⟨aR_ HO_3.out⟩, ⟨bw_ HB⟩⟩
   ·rw [if_neg c6] at H; have c6b0 := decide_eq_false c6; clear c6; obtain rfl := si_ H; go_wp2; go_ret
    exact ⟨_, u0_, aR_ HO_3.out, bw_ HB⟩
def en.f (k : Nat) (a0_0 : Int) (l0_1 : List Int) : Option (Int × List Int) := (ch.f k l0_1).bind fun t480 => (some (a0_0, t480))
theorem en.calls (k : Nat) (a0_0 : Int) (A0_1 : Option Addr) (c0_1 : Nat) (l0_1 : List Int) (r1 : Int) (r2 : List Int) (w : World) (hr0_1 : Kd.C (Kd.int .i64) w A0_1 l0_1.length l0_1) (hc0_1 : l0_1.length ≤ c0_1) (h : en.f k a0_0 l0_1 = some (r1, r2)) :
  Calls Tryz.prog 165 #[.agg #[.int .i64 a0_0, .slice A0_1 l0_1.length c0_1]] w fun e w' => ∃ v1_ : Value, e = .returned (.agg #[.int .i64 r1, v1_]) ∧ Kd.R (Kd.int .i64) 3 w' w.heap.size (fun _ => True) v1_ r2 ∧ Below w.heap.size w w' := by
 have hu182 := Tryz.underlying182; have hu50 := Tryz.underlying50; have HR0_1 := am_ hr0_1; have HC0_1 := am_ hc0_1; clear hr0_1 hc0_1; have HB := am_ (Below.refl w.heap.size w); have H := h; clear h; unfold en.f at H
 obtain ⟨t480, A2, H⟩ := bi_ H; simp only [Option.some.injEq, Prod.mk.injEq] at H; obtain ⟨rfl, rfl⟩ := H; go_enter Tryz.func165, Tryz.ntmps165
 go_wp2_with (first | ((with_reducible refine gt_ 1 ?_); refine bx_ 1 #[.int .i64 a0_0, .slice A0_1 l0_1.length c0_1] 182 ?_; intro gb477 hg w3 hbox hb; have BK477 := am_ (hbox); have GE477 := gw_ HB hg; replace HB := bs_ HB hb; clear hb hbox hg) | ((with_reducible refine gt_ 2 ?_); refine bx_ 2 #[.int .i64 0, .slice none 0 0] 50 ?_; intro gb478 hg w4 hbox hb; have BK478 := am_ (hbox); have GE478 := gw_ HB hg; replace HB := bs_ HB hb; have NB477_478 := nl_ BK477 hg; have NB478_477 := ng_ BK477 hg; replace BK477 := bb_ BK477 hb; clear hb hbox hg) | ((with_reducible refine gt_ 3 ?_); refine bx_ 3 #[.int .i64 0, .slice none 0 0] 50 ?_; intro gb479 hg w5 hbox hb; have BK479 := am_ (hbox); have GE479 := gw_ HB hg; replace HB := bs_ HB hb; have NB477_479 := nl_ BK477 hg; have NB479_477 := ng_ BK477 hg; replace BK477 := bb_ BK477 hb; have NB478_479 := nl_ BK478 hg; have NB479_478 := ng_ BK478 hg; replace BK478 := bb_ BK478 hb; clear hb hbox hg; have hnb6 := NB477_478.out; have hnc6 := NB478_477.out; have hnb7 := NB477_479.out; have hnc7 := NB479_477.out; obtain ⟨hcz8_0, hcz8_1, hfz8_0, hfz8_1⟩ := bK BK477.out; have hnb9 := NB479_478.out; have hnc9 := NB478_479.out; obtain ⟨hcz10_0, hcz10_1, hfz10_0, hfz10_1⟩ := bK BK479.out) | ((with_reducible refine gt_ 9 ?_); refine gf_ 9 Tryz.func185 (ch.calls k _ _ l0_1 t480 _ (kc_ HR0_1 HB) HC0_1.out A2.out) ?_; rintro e w11 ⟨v481, rfl, ho0, hb⟩; refine ⟨_, rfl, ?_⟩; have HO482 := am_ (Kd.R_lower ho0 (av (bw_ HB))); replace BK478 := bb_ BK478 hb; replace BK479 := am_ (aU (g := gb479) (o := .cells #[.int .i64 a0_0, .slice none 0 0] 50 (0, 0)) (pb_ BK479) hb); replace HB := bs_ HB hb; (try clear hb); (try clear ho0); obtain ⟨Ao12, co12, eo12⟩ := Kd.R_slice HO482.out; subst eo12; obtain ⟨hcz13_0, hcz13_1, hfz13_0, hfz13_1⟩ := bK BK479.out; obtain ⟨hcz14_0, hcz14_1, hfz14_0, hfz14_1⟩ := bK BK478.out))
 refine bodyPost_ret (results_cell_row rfl _ _ gb478 50 #[.int .i64 a0_0, .slice Ao12 t480.length co12] (0, 0) _ rfl (pb_ BK478) Tryz.underlying50 rfl b9) rfl ?_; exact ⟨_, u0_, by (with_reducible repeat (first | apply Kd.R_alloc | apply Kd.R_drewN | apply Kd.R_drew)); exact Kd.R_mono (Kd.R_far (p := ⟨gb478, 1, none⟩) (Kd.R_far (p := ⟨gb478, 0, none⟩) (Kd.R_far (p := ⟨gb479, 1, none⟩) (Kd.R_types (Kd.R_types HO482.out BK479.out bs) BK478.out bs) (fun _ hk => hk.1.2) (.slice Ao12 t480.length co12)) (fun _ hk => hk.2) (.int .i64 a0_0)) (fun _ hk => hk.2) (.slice Ao12 t480.length co12)) (fun _ hk => trivial), bw_ HB⟩
def bU.l0 : Nat → List (dX) → List (S50) → Int → Option ((List (S50)))
 | 0, _, _, _ => none
 | k + 1, x0, x3, x4 => if x4 < (x0.length : Int) then (if 0 ≤ x4 then ((en.f k ((dB x0 x4).f0) ((dB x0 x4).f1)).bind fun bt487 => (if x4 < (x3.length : Int) then (bU.l0 k x0 (x3.set (x4 : Int).toNat (⟨bt487.1, bt487.2⟩ : S50)) (wrap64 (x4 + 1))) else (none))) else (none)) else (some x3)
def bU.f (k : Nat) (l0 : List (dX)) : Option ((List (S50))) := if 0 ≤ (l0.length : Int) then (if ((l0.length : Int) : Int).toNat ≤ 8796093022208 then (bU.l0 k l0 (List.replicate ((l0.length : Int) : Int).toNat z50) 0) else (none)) else (none)
theorem bU.calls (k : Nat) (A0 : Option Addr) (c0 : Nat) (l0 : List (dX)) (r : List (S50)) (w : World) (hr0 : Kd.C jW w A0 l0.length l0) (hc0 : l0.length ≤ c0) (h : bU.f k l0 = some r) :
  Calls Tryz.prog 146 #[.slice A0 l0.length c0] w fun e w' => ∃ v0_ : Value, e = .returned (v0_) ∧ Kd.S k50 50 w' w.heap.size (fun _ => True) v0_ r ∧ Below w.heap.size w w' := by
 have hu182 := Tryz.underlying182; have hu50 := Tryz.underlying50; have HR0 := am_ hr0; have HC0 := am_ hc0; clear hr0 hc0; have HB := am_ (Below.refl w.heap.size w); have H := h; clear h; unfold bU.f at H
 obtain ⟨c2b0, c2b1, H⟩ := ge_ H; obtain ⟨c3b0, c3b1, H⟩ := ge_ H; generalize hy483 : ((List.replicate ((l0.length : Int) : Int).toNat z50) : List (S50)) = y483 at H; have Ny483 := am_ hy483.symm; clear hy483; have H' := am_ H; clear H; go_enter Tryz.func146, Tryz.ntmps146
 go_wp2_with (first | ((with_reducible refine az (N := 7) rfl ?_); refine Kd.S_make k50 _ 50 rfl (N := 7) rfl 34 _ _ rfl (l0.length : Int) rfl rfl Tryz.underlying34 (.agg #[(.int .i64 0), (.slice none 0 0)]) 32 m4 rfl bs u7_ z50 (ok := fun _ => True) (okp := fun _ => True) (iR _ _ _ z50 (Kd.R_nil _ _ _ _ _)) (fun _ hk => hk) trivial (od_) (Nat.le_trans (Nat.mul_le_mul_right _ (od_ : (l0.length : Int).toNat ≤ 8796093022208)) u7_) (Below.refl _ _) (Nat.le_refl _) ?_; intro v484 w4 ho5 hb hg_ hnew_; clear hg_ hnew_; (first | rw [← Ny483.out] at ho5 | (simp only [Int.reduceToNat] at ho5; rw [← Ny483.out] at ho5)); have HO485 := am_ (Kd.S_lower ho5 (av (bw_ HB))); replace HB := bs_ HB hb; clear hb ho5))
 go_loopg [4] k (fun kq v4 w' => ∃ (x3_1 : List (S50)) (x4_1 : Int), v4 = .int .i64 x4_1 ∧ aa (bU.l0 kq l0 x3_1 x4_1 = some r) ∧ aa (kq ≤ k) ∧ aa (Kd.S k50 50 w' w.heap.size (fun _ => True) v484 x3_1) ∧ aa (Below w.heap.size w w'))
 case atStart => exact ⟨(y483), (0), u1_, H', ⟨Nat.le_refl _⟩, ⟨aS_ HO485.out⟩, ⟨bw_ HB⟩⟩
 case round =>
  clear H'; try clear c2b0
  try clear c2b1
  try clear c3b0
  try clear c3b1
  obtain ⟨x3_1, x4_1, rfl, HA, HK1, HO_3, HB⟩ := hrel; cases gk with
  | zero => exact absurd HA.out (by simp [bU.l0])
  | succ k1 =>
   have H := HA.out; clear HA; simp only [bU.l0] at H; by_cases c6 : x4_1 < (l0.length : Int)
   ·rw [if_pos c6] at H; have c6b0 := decide_eq_true c6; clear c6; obtain ⟨c7b0, H⟩ := gd_ H; obtain ⟨⟨t487, t488⟩, A8, H⟩ := bi_ H; dsimp only at H; obtain ⟨c9b0, H⟩ := gd_ H; generalize hy491 : ((x3_1.set (x4_1 : Int).toNat (⟨t487, t488⟩ : S50)) : List (S50)) = y491 at H; have Ny491 := am_ hy491.symm; clear hy491; have H' := am_ H; clear H; obtain ⟨ad486, A486_1, c486_1, e486, hx486_0, hx486_1, hl486_1, hi486_1⟩ := pG HR0.out x4_1 od_ od_; cases e486; replace hx486_0 := cb_ HB hx486_0; replace hx486_1 := cb_ HB hx486_1; have HR486_1 := am_ hi486_1; have HC486_1 := am_ hl486_1; clear hi486_1 hl486_1; obtain ⟨p486, q486⟩ := pt_ x4_1 l0.length; go_wp2_with (first | ((with_reducible refine gt_ 20 ?_); refine gf_ 20 Tryz.func165 (en.calls k1 ((dB l0 x4_1).f0) _ _ ((dB l0 x4_1).f1) t487 t488 _ (kc_ HR486_1 HB) HC486_1.out A8.out) ?_; rintro e w11 ⟨v489, rfl, ho0, hb⟩; refine ⟨_, rfl, ?_⟩; replace HO_3 := am_ (Kd.S_elder' (aS_ HO_3.out) (Kd.R_base ho0) hb); have HO490 := am_ (Kd.R_lower ho0 (av (bw_ HB))); replace HB := bs_ HB hb; (try clear hb); (try clear ho0); have p10 : 0 ≤ (x4_1 : Int) := od_; have q10 : (x4_1 : Int) < ((x3_1.length : Int) : Int) := od_; obtain ⟨go10, co10, eo10, gb10, gl10, cl10, HG10⟩ := Kd.S_form HO_3.out u7_; (first | cases eo10 | (injection eo10 with ea_ en_ ec_; (first | subst ea_ | (injection ea_ with ea_; subst ea_)); subst ec_; clear en_)); have GB10 := am_ gb10; have GG10 := am_ HG10; clear gb10 gl10 HG10; obtain ⟨_, ce10, hcl10, hM10, hcc10, hfr10, _, _⟩ := Kd.S_elem HO_3.out z50 (x4_1 : Int) p10 q10; obtain ⟨ve10_1, rfl, ge10_1⟩ := g5 hM10; have hx10_0 : w11.cell? ⟨go10, (x4_1 : Int).toNat * 2, none⟩ = some (.int .i64 ((bb x3_1 x4_1).f0)) := hcc10 0 _ rfl; have hx10_1 : w11.cell? ⟨go10, (x4_1 : Int).toNat * 2 + 1, none⟩ = some (ve10_1) := hcc10 1 _ rfl; have hf10_0 : w11.frozen? ⟨go10, (x4_1 : Int).toNat * 2, none⟩ = false := hfr10 0; have hf10_1 : w11.frozen? ⟨go10, (x4_1 : Int).toNat * 2 + 1, none⟩ = false := hfr10 1; clear hcl10 hcc10 hfr10 hM10; obtain ⟨p10, q10⟩ := tt_ p10 q10; have n_ := am_ (Kd.S_mono (ok' := (fun k_ => some k_ ≠ (v489 : Value).ownBlock)) HO_3.out (fun k_ hk => hk.2)); clear HO_3; have HO_3 := n_; clear n_; have HX12 := am_ (show Kd.S k50 50 w11 w.heap.size (fun k_ => ((fun _ => True)) k_ ∧ ¬ ((fun k_ => some k_ = (v489 : Value).ownBlock)) k_) (.slice (some ⟨go10, 0, none⟩) x3_1.length co10) x3_1 from u62_); obtain ⟨oki12, ce12, hcl12, hM12, hcc12, hfr12, hoki12, hH12⟩ := Kd.S_elem HX12.out z50 (x4_1 : Int) (od_) (by have h_ : (x4_1 : Int) < ((x3_1.length : Int) : Int) := od_; first | exact h_ | (have e_ := (Kd.S_reads' HO_3.out).1; omega) | simpa using h_); obtain ⟨ve12_1, rfl, ge12_1⟩ := g5 hM12; have HP12 := Kd.S_seg hH12 (od_) (by have h_ : (x4_1 : Int) < ((x3_1.length : Int) : Int) := od_; first | exact h_ | (have e_ := (Kd.S_reads' HO_3.out).1; omega) | simpa using h_) (seg := [.int .i64 t487, v489]) (j := 0) (show 2 ≤ 2 from bs) (x' := (⟨t487, t488⟩ : S50)) (iR _ _ _ (⟨t487, t488⟩ : S50) (Kd.R_mono (Kd.R_tight rfl (Kd.R_mono (ok' := fun k_ => ((fun _ => True)) k_ ∧ k_ ≠ go10) (Kd.R_apart' (HO490.out) (Kd.S_typed HO_3.out) bs) (fun k_ hk => ⟨trivial, fun e_ => (hk.2) (by rw [e_]; rfl)⟩))) (fun _ h_ => Or.inr (h_)))) (fun _ hk => hk) (fun k_ hk_ => ((Kd.R_mono (ok' := fun k_ => ((fun _ => True)) k_ ∧ k_ ≠ go10) (Kd.R_apart' (HO490.out) (Kd.S_typed HO_3.out) bs) (fun k_ hk => ⟨trivial, fun e_ => (hk.2) (by rw [e_]; rfl)⟩))).1 k_ hk_.symm); have hx12_0 := hcc12 0 _ rfl; (try simp only [show (k50).sz = 2 from rfl, Nat.mul_one, Nat.add_zero] at hx12_0); have hf12_0 := hfr12 0; (try simp only [show (k50).sz = 2 from rfl, Nat.mul_one, Nat.add_zero] at hf12_0); have hx12_1 := hcc12 1 _ rfl; (try simp only [show (k50).sz = 2 from rfl, Nat.mul_one, Nat.add_zero] at hx12_1); have hf12_1 := hfr12 1; (try simp only [show (k50).sz = 2 from rfl, Nat.mul_one, Nat.add_zero] at hf12_1); clear hcl12 hcc12 hfr12 hM12 hoki12 hH12) | ((with_reducible refine eI (t := 50) (p := 21) rfl ?_); refine d9 (t := 50) (p := 21) (v := ?vo_w13) (w1 := ((w11.setCell ⟨go10, (x4_1 : Int).toNat * 2, none⟩ (.int .i64 t487)).setCell ⟨go10, (x4_1 : Int).toNat * 2 + 1, none⟩ (v489))) ?hg ?ho ?hn ?hr ?_; (case ho => rfl); (case hg => rfl); (case hn => rfl); (case hr => first | (go_simp; done) | (go_simp; rfl) | (obtain ⟨_, _, e_⟩ := Kd.R_slice HO490.out; subst e_; first | (go_simp; done) | (go_simp; rfl))); intro w13 hw; have hg : w11.grownBy w13 (some go10) := (by rw [hw]; exact HP12.2); have hp_ : Kd.S k50 50 w13 w.heap.size (fun _ => True) (.slice (some ⟨go10, 0, none⟩) x3_1.length co10) y491 := (by rw [hw, Ny491.out]; exact HP12.1); clear HP12; replace HO_3 := am_ (hp_); replace HB := am_ ((by rw [hw]; exact bj (bj (HB.out) GB10.out) GB10.out : Below w.heap.size w w13)); clear HO490 hg hw hp_))
    go_roundg k1
    case measure => have := HK1.out; omega
    case rel => exact ⟨(y491), (wrap64 (x4_1 + 1)), u1_, H', ⟨dc⟩, ⟨aS_ HO_3.out⟩, ⟨bw_ HB⟩⟩
   ·rw [if_neg c6] at H; have c6b0 := decide_eq_false c6; clear c6; obtain rfl := si_ H; go_wp2; go_ret
    exact ⟨_, u0_, aS_ HO_3.out, bw_ HB⟩
def dN.f (k : Nat) (a0_0 : ByteArray) (a0_1 : ByteArray) (l0_2 : List (dX)) : Option (ByteArray × ByteArray × (List (S50))) := (bU.f k l0_2).bind fun t495 => (some (a0_0, a0_1, t495))
theorem dN.calls (k : Nat) (a0_0 : ByteArray) (a0_1 : ByteArray) (A0_2 : Option Addr) (c0_2 : Nat) (l0_2 : List (dX)) (r1 : ByteArray) (r2 : ByteArray) (r3 : List (S50)) (w : World) (hr0_2 : Kd.C jW w A0_2 l0_2.length l0_2) (hc0_2 : l0_2.length ≤ c0_2) (h : dN.f k a0_0 a0_1 l0_2 = some (r1, r2, r3)) :
  Calls Tryz.prog 107 #[.agg #[.string a0_0, .string a0_1, .slice A0_2 l0_2.length c0_2]] w fun e w' => ∃ v2_ : Value, e = .returned (.agg #[.string r1, .string r2, v2_]) ∧ Kd.S k50 50 w' w.heap.size (fun _ => True) v2_ r3 ∧ Below w.heap.size w w' := by
 have hu137 := Tryz.underlying137; have hu76 := Tryz.underlying76; have HR0_2 := am_ hr0_2; have HC0_2 := am_ hc0_2; clear hr0_2 hc0_2; have HB := am_ (Below.refl w.heap.size w); have H := h; clear h; unfold dN.f at H
 obtain ⟨t495, A2, H⟩ := bi_ H; simp only [Option.some.injEq, Prod.mk.injEq] at H; obtain ⟨rfl, rfl, rfl⟩ := H; go_enter Tryz.func107, Tryz.ntmps107
 go_wp2_with (first | ((with_reducible refine gt_ 1 ?_); refine bx_ 1 #[.string a0_0, .string a0_1, .slice A0_2 l0_2.length c0_2] 137 ?_; intro gb492 hg w3 hbox hb; have BK492 := am_ (hbox); have GE492 := gw_ HB hg; replace HB := bs_ HB hb; clear hb hbox hg) | ((with_reducible refine gt_ 2 ?_); refine bx_ 2 #[.string (⟨#[]⟩ : ByteArray), .string (⟨#[]⟩ : ByteArray), .slice none 0 0] 76 ?_; intro gb493 hg w4 hbox hb; have BK493 := am_ (hbox); have GE493 := gw_ HB hg; replace HB := bs_ HB hb; have NB492_493 := nl_ BK492 hg; have NB493_492 := ng_ BK492 hg; replace BK492 := bb_ BK492 hb; clear hb hbox hg) | ((with_reducible refine gt_ 3 ?_); refine bx_ 3 #[.string (⟨#[]⟩ : ByteArray), .string (⟨#[]⟩ : ByteArray), .slice none 0 0] 76 ?_; intro gb494 hg w5 hbox hb; have BK494 := am_ (hbox); have GE494 := gw_ HB hg; replace HB := bs_ HB hb; have NB492_494 := nl_ BK492 hg; have NB494_492 := ng_ BK492 hg; replace BK492 := bb_ BK492 hb; have NB493_494 := nl_ BK493 hg; have NB494_493 := ng_ BK493 hg; replace BK493 := bb_ BK493 hb; clear hb hbox hg; have hnb6 := NB492_493.out; have hnc6 := NB493_492.out; have hnb7 := NB492_494.out; have hnc7 := NB494_492.out; obtain ⟨hcz8_0, hcz8_1, hcz8_2, hfz8_0, hfz8_1, hfz8_2⟩ := bO BK492.out; have hnb9 := NB494_493.out; have hnc9 := NB493_494.out; obtain ⟨hcz10_0, hcz10_1, hcz10_2, hfz10_0, hfz10_1, hfz10_2⟩ := bO BK494.out) | ((with_reducible refine gt_ 12 ?_); refine gf_ 12 Tryz.func146 (bU.calls k _ _ l0_2 t495 _ (kc_ HR0_2 HB) HC0_2.out A2.out) ?_; rintro e w11 ⟨v496, rfl, ho0, hb⟩; refine ⟨_, rfl, ?_⟩; have HO497 := am_ (Kd.S_lower ho0 (av (bw_ HB))); replace BK493 := bb_ BK493 hb; replace BK494 := am_ (aU (g := gb494) (o := .cells #[.string a0_0, .string a0_1, .slice none 0 0] 76 (0, 0)) (pb_ BK494) hb); replace HB := bs_ HB hb; (try clear hb); (try clear ho0); obtain ⟨Ao12, co12, eo12⟩ := Kd.S_slice HO497.out; subst eo12; obtain ⟨hcz13_0, hcz13_1, hcz13_2, hfz13_0, hfz13_1, hfz13_2⟩ := bO BK494.out; obtain ⟨hcz14_0, hcz14_1, hcz14_2, hfz14_0, hfz14_1, hfz14_2⟩ := bO BK493.out))
 refine bodyPost_ret (results_cell_row rfl _ _ gb493 76 #[.string a0_0, .string a0_1, .slice Ao12 t495.length co12] (0, 0) _ rfl (pb_ BK493) Tryz.underlying76 rfl b9) rfl ?_; exact ⟨_, u0_, by (with_reducible repeat (first | apply Kd.S_alloc | apply Kd.S_drewN | apply Kd.S_drew)); exact Kd.S_mono (Kd.S_far (p := ⟨gb493, 2, none⟩) (Kd.S_far (p := ⟨gb493, 1, none⟩) (Kd.S_far (p := ⟨gb493, 0, none⟩) (Kd.S_far (p := ⟨gb494, 2, none⟩) (Kd.S_types (Kd.S_types HO497.out BK494.out bs) BK493.out bs) (fun _ hk => hk.1.2) (.slice Ao12 t495.length co12)) (fun _ hk => hk.2) (.string a0_0)) (fun _ hk => hk.2) (.string a0_1)) (fun _ hk => hk.2) (.slice Ao12 t495.length co12)) (fun _ hk => trivial), bw_ HB⟩
def bH.l0 : Nat → List (dV) → List (S76) → Int → Option ((List (S76)))
 | 0, _, _, _ => none
 | k + 1, x0, x3, x4 => if x4 < (x0.length : Int) then (if 0 ≤ x4 then ((dN.f k ((cZ x0 x4).f0) ((cZ x0 x4).f1) ((cZ x0 x4).f2)).bind fun bt502 => (if x4 < (x3.length : Int) then (bH.l0 k x0 (x3.set (x4 : Int).toNat (⟨bt502.1, bt502.2.1, bt502.2.2⟩ : S76)) (wrap64 (x4 + 1))) else (none))) else (none)) else (some x3)
def bH.f (k : Nat) (l0 : List (dV)) : Option ((List (S76))) := if 0 ≤ (l0.length : Int) then (if ((l0.length : Int) : Int).toNat ≤ 5026338869833 then (bH.l0 k l0 (List.replicate ((l0.length : Int) : Int).toNat z76) 0) else (none)) else (none)
theorem bH.calls (k : Nat) (A0 : Option Addr) (c0 : Nat) (l0 : List (dV)) (r : List (S76)) (w : World) (hr0 : Kd.C nF w A0 l0.length l0) (hc0 : l0.length ≤ c0) (h : bH.f k l0 = some r) :
  Calls Tryz.prog 62 #[.slice A0 l0.length c0] w fun e w' => ∃ v0_ : Value, e = .returned (v0_) ∧ Kd.R k76 76 w' w.heap.size (fun _ => True) v0_ r ∧ Below w.heap.size w w' := by
 have hu137 := Tryz.underlying137; have hu76 := Tryz.underlying76; have HR0 := am_ hr0; have HC0 := am_ hc0; clear hr0 hc0; have HB := am_ (Below.refl w.heap.size w); have H := h; clear h; unfold bH.f at H
 by_cases c2 : 0 ≤ (l0.length : Int)
 ·rw [if_pos c2] at H; have c2b0 := eq_true c2; have c2b1 := decide_eq_true c2; clear c2; obtain ⟨c3b0, c3b1, H⟩ := ge_ H; generalize hy498 : ((List.replicate ((l0.length : Int) : Int).toNat z76) : List (S76)) = y498 at H; have Ny498 := am_ hy498.symm; clear hy498; have H' := am_ H; clear H; go_enter Tryz.func62, Tryz.ntmps62
  go_wp2_with (first | ((with_reducible refine az (N := 7) rfl ?_); refine Kd.R_make k76 _ 76 rfl (N := 7) rfl 25 _ _ rfl (l0.length : Int) rfl rfl Tryz.underlying25 (.agg #[(.string ⟨#[]⟩), (.string ⟨#[]⟩), (.slice none 0 0)]) 56 jk rfl bs u7_ z76 (ok := fun _ => True) (okp := fun _ => True) (ki _ _ _ z76 (Kd.R_nil _ _ _ _ _)) (fun _ hk => hk) trivial (od_) (Nat.le_trans (Nat.mul_le_mul_right _ (od_ : (l0.length : Int).toNat ≤ 5026338869833)) u7_) (Below.refl _ _) (Nat.le_refl _) ?_; intro v499 w4 ho5 hb hg_ hnew_; clear hg_ hnew_; (first | rw [← Ny498.out] at ho5 | (simp only [Int.reduceToNat] at ho5; rw [← Ny498.out] at ho5)); have HO500 := am_ (Kd.R_lower ho5 (av (bw_ HB))); replace HB := bs_ HB hb; clear hb ho5))
  go_loopg [4] k (fun kq v4 w' => ∃ (x3_1 : List (S76)) (x4_1 : Int), v4 = .int .i64 x4_1 ∧ aa (bH.l0 kq l0 x3_1 x4_1 = some r) ∧ aa (kq ≤ k) ∧ aa (Kd.R k76 76 w' w.heap.size (fun _ => True) v499 x3_1) ∧ aa (Below w.heap.size w w'))
  case atStart => exact ⟨(y498), (0), u1_, H', ⟨Nat.le_refl _⟩, ⟨aR_ HO500.out⟩, ⟨bw_ HB⟩⟩
  case round =>
   clear H'; try clear c2
   try clear c2b0
   try clear c2b1
   try clear c3b0
   try clear c3b1
   obtain ⟨x3_1, x4_1, rfl, HA, HK1, HO_3, HB⟩ := hrel; cases gk with
   | zero => exact absurd HA.out (by simp [bH.l0])
   | succ k1 =>
    have H := HA.out; clear HA; simp only [bH.l0] at H; by_cases c6 : x4_1 < (l0.length : Int)
    ·rw [if_pos c6] at H; have c6b0 := decide_eq_true c6; clear c6; obtain ⟨c7b0, H⟩ := gd_ H; obtain ⟨⟨t502, t503, t504⟩, A8, H⟩ := bi_ H; dsimp only at H; obtain ⟨c9b0, H⟩ := gd_ H; generalize hy507 : ((x3_1.set (x4_1 : Int).toNat (⟨t502, t503, t504⟩ : S76)) : List (S76)) = y507 at H; have Ny507 := am_ hy507.symm; clear hy507; have H' := am_ H; clear H; obtain ⟨ad501, A501_2, c501_2, e501, hx501_0, hx501_1, hx501_2, hl501_2, hi501_2⟩ := pD HR0.out x4_1 od_ od_; cases e501; replace hx501_0 := cb_ HB hx501_0; replace hx501_1 := cb_ HB hx501_1; replace hx501_2 := cb_ HB hx501_2; have HR501_2 := am_ hi501_2; have HC501_2 := am_ hl501_2; clear hi501_2 hl501_2; obtain ⟨p501, q501⟩ := pt_ x4_1 l0.length; go_wp2_with (first | ((with_reducible refine gt_ 20 ?_); refine gf_ 20 Tryz.func107 (dN.calls k1 ((cZ l0 x4_1).f0) ((cZ l0 x4_1).f1) _ _ ((cZ l0 x4_1).f2) t502 t503 t504 _ (kc_ HR501_2 HB) HC501_2.out A8.out) ?_; rintro e w11 ⟨v505, rfl, ho0, hb⟩; refine ⟨_, rfl, ?_⟩; replace HO_3 := am_ (Kd.R_elder' (aR_ HO_3.out) (Kd.S_base ho0) hb); have HO506 := am_ (Kd.S_lower ho0 (av (bw_ HB))); replace HB := bs_ HB hb; (try clear hb); (try clear ho0); have p10 : 0 ≤ (x4_1 : Int) := od_; have q10 : (x4_1 : Int) < ((x3_1.length : Int) : Int) := od_; obtain ⟨go10, co10, eo10, gb10, gl10, cl10, HG10⟩ := Kd.R_form HO_3.out u7_; (first | cases eo10 | (injection eo10 with ea_ en_ ec_; (first | subst ea_ | (injection ea_ with ea_; subst ea_)); subst ec_; clear en_)); have GB10 := am_ gb10; have GG10 := am_ HG10; clear gb10 gl10 HG10; obtain ⟨ce10, hcl10, hM10, hcc10, hfr10⟩ := Kd.R_elem HO_3.out z76 (x4_1 : Int) p10 q10; obtain ⟨ve10_2, rfl, ge10_2⟩ := gW hM10; have hx10_0 : w11.cell? ⟨go10, (x4_1 : Int).toNat * 3, none⟩ = some (.string ((aj x3_1 x4_1).f0)) := hcc10 0 _ rfl; have hx10_1 : w11.cell? ⟨go10, (x4_1 : Int).toNat * 3 + 1, none⟩ = some (.string ((aj x3_1 x4_1).f1)) := hcc10 1 _ rfl; have hx10_2 : w11.cell? ⟨go10, (x4_1 : Int).toNat * 3 + 2, none⟩ = some (ve10_2) := hcc10 2 _ rfl; have hf10_0 : w11.frozen? ⟨go10, (x4_1 : Int).toNat * 3, none⟩ = false := hfr10 0; have hf10_1 : w11.frozen? ⟨go10, (x4_1 : Int).toNat * 3 + 1, none⟩ = false := hfr10 1; have hf10_2 : w11.frozen? ⟨go10, (x4_1 : Int).toNat * 3 + 2, none⟩ = false := hfr10 2; clear hcl10 hcc10 hfr10 hM10; obtain ⟨p10, q10⟩ := tt_ p10 q10; have n_ := am_ (Kd.R_mono (ok' := (fun k_ => some k_ ≠ (v505 : Value).ownBlock)) HO_3.out (fun k_ hk => hk.2)); clear HO_3; have HO_3 := n_; clear n_; have HX12 := am_ (show Kd.R k76 76 w11 w.heap.size (fun _ => True) (.slice (some ⟨go10, 0, none⟩) x3_1.length co10) x3_1 from (by (with_reducible repeat (first | apply Kd.R_alloc | apply Kd.R_drewN | apply Kd.R_drew)); exact Kd.R_mono HO_3.out (fun _ hk => trivial))); obtain ⟨ce12, hcl12, hM12, hcc12, hfr12⟩ := Kd.R_elem HX12.out z76 (x4_1 : Int) (od_) (by have h_ : (x4_1 : Int) < ((x3_1.length : Int) : Int) := od_; first | exact h_ | (have e_ := (Kd.R_reads' HO_3.out).1; omega) | simpa using h_); obtain ⟨ve12_2, rfl, ge12_2⟩ := gW hM12; have HP12 := Kd.R_seg HX12.out (x4_1 : Int) (od_) (by have h_ : (x4_1 : Int) < ((x3_1.length : Int) : Int) := od_; first | exact h_ | (have e_ := (Kd.R_reads' HO_3.out).1; omega) | simpa using h_) (seg := [.string t502, .string t503, v505]) (j := 0) hcl12 hcc12 (show 3 ≤ 3 from bs) (x' := (⟨t502, t503, t504⟩ : S76)) (ki _ _ _ (⟨t502, t503, t504⟩ : S76) (Kd.R_mono (Kd.R_apart' ((Kd.S_R HO506.out)) (Kd.R_typed HO_3.out) bs) (fun k_ hk => ⟨trivial, fun e_ => (hk.2) (by rw [e_]; rfl)⟩))) (fun _ hk => hk); have hx12_0 := hcc12 0 _ rfl; (try simp only [show (k76).sz = 3 from rfl, Nat.mul_one, Nat.add_zero] at hx12_0); have hf12_0 := hfr12 0; (try simp only [show (k76).sz = 3 from rfl, Nat.mul_one, Nat.add_zero] at hf12_0); have hx12_1 := hcc12 1 _ rfl; (try simp only [show (k76).sz = 3 from rfl, Nat.mul_one, Nat.add_zero] at hx12_1); have hf12_1 := hfr12 1; (try simp only [show (k76).sz = 3 from rfl, Nat.mul_one, Nat.add_zero] at hf12_1); have hx12_2 := hcc12 2 _ rfl; (try simp only [show (k76).sz = 3 from rfl, Nat.mul_one, Nat.add_zero] at hx12_2); have hf12_2 := hfr12 2; (try simp only [show (k76).sz = 3 from rfl, Nat.mul_one, Nat.add_zero] at hf12_2); clear hcl12 hcc12 hfr12 hM12) | ((with_reducible refine eI (t := 76) (p := 21) rfl ?_); refine d9 (t := 76) (p := 21) (v := ?vo_w13) (w1 := (((w11.setCell ⟨go10, (x4_1 : Int).toNat * 3, none⟩ (.string t502)).setCell ⟨go10, (x4_1 : Int).toNat * 3 + 1, none⟩ (.string t503)).setCell ⟨go10, (x4_1 : Int).toNat * 3 + 2, none⟩ (v505))) ?hg ?ho ?hn ?hr ?_; (case ho => rfl); (case hg => rfl); (case hn => rfl); (case hr => first | (go_simp; done) | (go_simp; rfl) | (obtain ⟨_, _, e_⟩ := Kd.S_slice HO506.out; subst e_; first | (go_simp; done) | (go_simp; rfl))); intro w13 hw; have hg : w11.grownBy w13 (some go10) := (by rw [hw]; exact HP12.2); have hp_ : Kd.R k76 76 w13 w.heap.size (fun _ => True) (.slice (some ⟨go10, 0, none⟩) x3_1.length co10) y507 := (by rw [hw, Ny507.out]; exact HP12.1); clear HP12; replace HO_3 := am_ (hp_); replace HB := am_ ((by rw [hw]; exact bj (bj (bj (HB.out) GB10.out) GB10.out) GB10.out : Below w.heap.size w w13)); clear HO506 hg hw hp_))
     go_roundg k1
     case measure => have := HK1.out; omega
     case rel => exact ⟨(y507), (wrap64 (x4_1 + 1)), u1_, H', ⟨dc⟩, ⟨aR_ HO_3.out⟩, ⟨bw_ HB⟩⟩
    ·rw [if_neg c6] at H; have c6b0 := decide_eq_false c6; clear c6; obtain rfl := si_ H; go_wp2; go_ret
     exact ⟨_, u0_, aR_ HO_3.out, bw_ HB⟩
 ·rw [if_neg c2] at H; exact absurd H cN
def di.f (k : Nat) (l0_0 : List (d8)) (l0_1 : List (dW)) (l0_2 : List (dV)) (a0_3 : Int) : Option ((List (S92)) × (List (S46)) × (List (S76)) × Int) := (bI.f k l0_0).bind fun t511 => ((cg.f k l0_1).bind fun t514 => ((bH.f k l0_2).bind fun t517 => (some (t511, t514, t517, a0_3))))
theorem di.calls (k : Nat) (A0_0 : Option Addr) (c0_0 : Nat) (l0_0 : List (d8)) (A0_1 : Option Addr) (c0_1 : Nat) (l0_1 : List (dW)) (A0_2 : Option Addr) (c0_2 : Nat) (l0_2 : List (dV)) (a0_3 : Int) (r1 : List (S92)) (r2 : List (S46)) (r3 : List (S76)) (r4 : Int) (w : World) (hr0_0 : Kd.C nm w A0_0 l0_0.length l0_0) (hc0_0 : l0_0.length ≤ c0_0) (hr0_1 : Kd.C n7 w A0_1 l0_1.length l0_1) (hc0_1 : l0_1.length ≤ c0_1) (hr0_2 : Kd.C nF w A0_2 l0_2.length l0_2) (hc0_2 : l0_2.length ≤ c0_2) (h : di.f k l0_0 l0_1 l0_2 a0_3 = some (r1, r2, r3, r4)) :
  Calls Tryz.prog 24 #[.agg #[.slice A0_0 l0_0.length c0_0, .slice A0_1 l0_1.length c0_1, .slice A0_2 l0_2.length c0_2, .int .i64 a0_3]] w fun e w' => ∃ v0_ v1_ v2_ : Value, e = .returned (.agg #[v0_, v1_, v2_, .int .i64 r4]) ∧ Kd.R k92 92 w' w.heap.size (fun _ => True) v0_ r1 ∧ Kd.S k46 46 w' w.heap.size (fun _ => True) v1_ r2 ∧ Kd.R k76 76 w' w.heap.size (fun _ => True) v2_ r3 ∧ Below w.heap.size w w' := by
 have hu56 := Tryz.underlying56; have hu27 := Tryz.underlying27; have HR0_0 := am_ hr0_0; have HC0_0 := am_ hc0_0; clear hr0_0 hc0_0; have HR0_1 := am_ hr0_1; have HC0_1 := am_ hc0_1; clear hr0_1 hc0_1; have HR0_2 := am_ hr0_2; have HC0_2 := am_ hc0_2; clear hr0_2 hc0_2; have HB := am_ (Below.refl w.heap.size w); have H := h; clear h; unfold di.f at H
 obtain ⟨t511, A2, H⟩ := bi_ H; obtain ⟨t514, A3, H⟩ := bi_ H; obtain ⟨t517, A4, H⟩ := bi_ H; simp only [Option.some.injEq, Prod.mk.injEq] at H; obtain ⟨rfl, rfl, rfl, rfl⟩ := H; go_enter Tryz.func24, Tryz.ntmps24
 go_wp2_with (first | ((with_reducible refine gt_ 1 ?_); refine bx_ 1 #[.slice A0_0 l0_0.length c0_0, .slice A0_1 l0_1.length c0_1, .slice A0_2 l0_2.length c0_2, .int .i64 a0_3] 56 ?_; intro gb508 hg w5 hbox hb; have BK508 := am_ (hbox); have GE508 := gw_ HB hg; replace HB := bs_ HB hb; clear hb hbox hg) | ((with_reducible refine gt_ 2 ?_); refine bx_ 2 #[.slice none 0 0, .slice none 0 0, .slice none 0 0, .int .i64 0] 27 ?_; intro gb509 hg w6 hbox hb; have BK509 := am_ (hbox); have GE509 := gw_ HB hg; replace HB := bs_ HB hb; have NB508_509 := nl_ BK508 hg; have NB509_508 := ng_ BK508 hg; replace BK508 := bb_ BK508 hb; clear hb hbox hg) | ((with_reducible refine gt_ 3 ?_); refine bx_ 3 #[.slice none 0 0, .slice none 0 0, .slice none 0 0, .int .i64 0] 27 ?_; intro gb510 hg w7 hbox hb; have BK510 := am_ (hbox); have GE510 := gw_ HB hg; replace HB := bs_ HB hb; have NB508_510 := nl_ BK508 hg; have NB510_508 := ng_ BK508 hg; replace BK508 := bb_ BK508 hb; have NB509_510 := nl_ BK509 hg; have NB510_509 := ng_ BK509 hg; replace BK509 := bb_ BK509 hb; clear hb hbox hg; have hnb8 := NB508_509.out; have hnc8 := NB509_508.out; have hnb9 := NB508_510.out; have hnc9 := NB510_508.out; obtain ⟨hcz10_0, hcz10_1, hcz10_2, hcz10_3, hfz10_0, hfz10_1, hfz10_2, hfz10_3⟩ := cu BK508.out) | ((with_reducible refine gt_ 6 ?_); refine gf_ 6 Tryz.func60 (bI.calls k _ _ l0_0 t511 _ (kc_ HR0_0 HB) HC0_0.out A2.out) ?_; rintro e w11 ⟨v512, rfl, ho0, hb⟩; refine ⟨_, rfl, ?_⟩; have HO513 := am_ (Kd.R_lower ho0 (av (bw_ HB))); replace BK508 := bb_ BK508 hb; replace BK509 := bb_ BK509 hb; replace BK510 := bb_ BK510 hb; replace HB := bs_ HB hb; (try clear hb); (try clear ho0); obtain ⟨Ao12, co12, eo12⟩ := Kd.R_slice HO513.out; subst eo12; have hnb13 := NB510_509.out; have hnc13 := NB509_510.out; obtain ⟨hcz14_0, hcz14_1, hcz14_2, hcz14_3, hfz14_0, hfz14_1, hfz14_2, hfz14_3⟩ := cu BK510.out; obtain ⟨hcz15_0, hcz15_1, hcz15_2, hcz15_3, hfz15_0, hfz15_1, hfz15_2, hfz15_3⟩ := cu BK508.out) | ((with_reducible refine gt_ 10 ?_); refine gf_ 10 Tryz.func61 (cg.calls k _ _ l0_1 t514 _ (kc_ HR0_1 HB) HC0_1.out A3.out) ?_; rintro e w16 ⟨v515, rfl, ho0, hb⟩; refine ⟨_, rfl, ?_⟩; replace HO513 := am_ (Kd.R_below (aR_ (Kd.R_mono (Kd.R_far (p := ⟨gb510, 0, none⟩) (Kd.R_types HO513.out BK510.out bs) (fun _ hk => hk.2) (.slice Ao12 t511.length co12)) (fun _ h_ => h_.1))) hb); have HO516 := am_ (Kd.S_lower ho0 (av (bw_ HB))); replace BK508 := bb_ BK508 hb; replace BK509 := bb_ BK509 hb; replace BK510 := am_ (aU (g := gb510) (o := .cells #[.slice Ao12 t511.length co12, .slice none 0 0, .slice none 0 0, .int .i64 0] 27 (0, 0)) (pb_ BK510) hb); replace HB := bs_ HB hb; (try clear hb); (try clear ho0); obtain ⟨Ao17, co17, eo17⟩ := Kd.S_slice HO516.out; subst eo17; obtain ⟨hcz18_0, hcz18_1, hcz18_2, hcz18_3, hfz18_0, hfz18_1, hfz18_2, hfz18_3⟩ := cu BK510.out; obtain ⟨hcz19_0, hcz19_1, hcz19_2, hcz19_3, hfz19_0, hfz19_1, hfz19_2, hfz19_3⟩ := cu BK508.out) | ((with_reducible refine gt_ 14 ?_); refine gf_ 14 Tryz.func62 (bH.calls k _ _ l0_2 t517 _ (kc_ HR0_2 HB) HC0_2.out A4.out) ?_; rintro e w20 ⟨v518, rfl, ho0, hb⟩; refine ⟨_, rfl, ?_⟩; replace HO513 := am_ (Kd.R_below (aR_ (Kd.R_mono (Kd.R_far (p := ⟨gb510, 1, none⟩) (Kd.R_types HO513.out BK510.out bs) (fun _ hk => hk.2) (.slice Ao17 t514.length co17)) (fun _ h_ => h_.1))) hb); replace HO516 := am_ (Kd.S_below (aS_ (Kd.S_mono (Kd.S_far (p := ⟨gb510, 1, none⟩) (Kd.S_types HO516.out BK510.out bs) (fun _ hk => hk.2) (.slice Ao17 t514.length co17)) (fun _ h_ => h_.1))) hb); have HO519 := am_ (Kd.R_lower ho0 (av (bw_ HB))); replace BK508 := bb_ BK508 hb; replace BK509 := bb_ BK509 hb; replace BK510 := am_ (aU (g := gb510) (o := .cells #[.slice Ao12 t511.length co12, .slice Ao17 t514.length co17, .slice none 0 0, .int .i64 0] 27 (0, 0)) (pb_ BK510) hb); replace HB := bs_ HB hb; (try clear hb); (try clear ho0); obtain ⟨Ao21, co21, eo21⟩ := Kd.R_slice HO519.out; subst eo21; obtain ⟨hcz22_0, hcz22_1, hcz22_2, hcz22_3, hfz22_0, hfz22_1, hfz22_2, hfz22_3⟩ := cu BK510.out; obtain ⟨hcz23_0, hcz23_1, hcz23_2, hcz23_3, hfz23_0, hfz23_1, hfz23_2, hfz23_3⟩ := cu BK508.out; obtain ⟨hcz24_0, hcz24_1, hcz24_2, hcz24_3, hfz24_0, hfz24_1, hfz24_2, hfz24_3⟩ := cu BK509.out))
 refine bodyPost_ret (results_cell_row rfl _ _ gb509 27 #[.slice Ao12 t511.length co12, .slice Ao17 t514.length co17, .slice Ao21 t517.length co21, .int .i64 a0_3] (0, 0) _ rfl (pb_ BK509) Tryz.underlying27 rfl b9) rfl ?_; exact ⟨_, _, _, u0_, by (with_reducible repeat (first | apply Kd.R_alloc | apply Kd.R_drewN | apply Kd.R_drew)); exact Kd.R_mono (Kd.R_far (p := ⟨gb509, 3, none⟩) (Kd.R_far (p := ⟨gb509, 2, none⟩) (Kd.R_far (p := ⟨gb509, 1, none⟩) (Kd.R_far (p := ⟨gb509, 0, none⟩) (Kd.R_far (p := ⟨gb510, 3, none⟩) (Kd.R_far (p := ⟨gb510, 2, none⟩) (Kd.R_types (Kd.R_types HO513.out BK510.out bs) BK509.out bs) (fun _ hk => hk.1.2) (.slice Ao21 t517.length co21)) (fun _ hk => hk.1.2) (.int .i64 a0_3)) (fun _ hk => hk.2) (.slice Ao12 t511.length co12)) (fun _ hk => hk.2) (.slice Ao17 t514.length co17)) (fun _ hk => hk.2) (.slice Ao21 t517.length co21)) (fun _ hk => hk.2) (.int .i64 a0_3)) (fun _ hk => trivial), by (with_reducible repeat (first | apply Kd.S_alloc | apply Kd.S_drewN | apply Kd.S_drew)); exact Kd.S_mono (Kd.S_far (p := ⟨gb509, 3, none⟩) (Kd.S_far (p := ⟨gb509, 2, none⟩) (Kd.S_far (p := ⟨gb509, 1, none⟩) (Kd.S_far (p := ⟨gb509, 0, none⟩) (Kd.S_far (p := ⟨gb510, 3, none⟩) (Kd.S_far (p := ⟨gb510, 2, none⟩) (Kd.S_types (Kd.S_types HO516.out BK510.out bs) BK509.out bs) (fun _ hk => hk.1.2) (.slice Ao21 t517.length co21)) (fun _ hk => hk.1.2) (.int .i64 a0_3)) (fun _ hk => hk.2) (.slice Ao12 t511.length co12)) (fun _ hk => hk.2) (.slice Ao17 t514.length co17)) (fun _ hk => hk.2) (.slice Ao21 t517.length co21)) (fun _ hk => hk.2) (.int .i64 a0_3)) (fun _ hk => trivial), by (with_reducible repeat (first | apply Kd.R_alloc | apply Kd.R_drewN | apply Kd.R_drew)); exact Kd.R_mono (Kd.R_far (p := ⟨gb509, 3, none⟩) (Kd.R_far (p := ⟨gb509, 2, none⟩) (Kd.R_far (p := ⟨gb509, 1, none⟩) (Kd.R_far (p := ⟨gb509, 0, none⟩) (Kd.R_far (p := ⟨gb510, 3, none⟩) (Kd.R_far (p := ⟨gb510, 2, none⟩) (Kd.R_types (Kd.R_types HO519.out BK510.out bs) BK509.out bs) (fun _ hk => hk.1.2) (.slice Ao21 t517.length co21)) (fun _ hk => hk.1.2) (.int .i64 a0_3)) (fun _ hk => hk.2) (.slice Ao12 t511.length co12)) (fun _ hk => hk.2) (.slice Ao17 t514.length co17)) (fun _ hk => hk.2) (.slice Ao21 t517.length co21)) (fun _ hk => hk.2) (.int .i64 a0_3)) (fun _ hk => trivial), bw_ HB⟩
def dQ.f (a0_0 : ByteArray) (a0_1 : Int) (a0_2 : Int) (a1_0 : ByteArray) (a1_1 : Int) (a1_2 : Int) : Option (Bool) := if a0_0.toList = a1_0.toList then (if a0_1 = a1_1 then (if a0_2 = a1_2 then (some true) else (some false)) else (some false)) else (some false)
theorem dQ.calls (a0_0 : ByteArray) (a0_1 : Int) (a0_2 : Int) (a1_0 : ByteArray) (a1_1 : Int) (a1_2 : Int) (r : Bool) (w : World) (h : dQ.f a0_0 a0_1 a0_2 a1_0 a1_1 a1_2 = some r) :
  Calls Tryz.prog 121 #[.agg #[.string a0_0, .int .i64 a0_1, .int .i64 a0_2], .agg #[.string a1_0, .int .i64 a1_1, .int .i64 a1_2]] w fun e w' => e = .returned (.bool r) ∧ Below w.heap.size w w' := by
 have hu92 := Tryz.underlying92; have HB := am_ (Below.refl w.heap.size w); have H := h; clear h; unfold dQ.f at H
 by_cases c3 : a0_0.toList = a1_0.toList
 ·rw [if_pos c3] at H; have c3b0 := cQ c3; have c3b1 := cO c3; clear c3; by_cases c4 : a0_1 = a1_1
  ·rw [if_pos c4] at H; have c4b0 := cQ c4; have c4b1 := cO c4; clear c4; by_cases c5 : a0_2 = a1_2
   ·rw [if_pos c5] at H; have c5b0 := cQ c5; have c5b1 := cO c5; clear c5; obtain rfl := si_ H; go_enter Tryz.func121, Tryz.ntmps121
    go_wp2_with (first | ((with_reducible refine gt_ 2 ?_); refine bx_ 2 #[.string a0_0, .int .i64 a0_1, .int .i64 a0_2] 92 ?_; intro gb520 hg w6 hbox hb; have BK520 := am_ (hbox); have GE520 := gw_ HB hg; replace HB := bs_ HB hb; clear hb hbox hg) | ((with_reducible refine gt_ 3 ?_); refine bx_ 3 #[.string a1_0, .int .i64 a1_1, .int .i64 a1_2] 92 ?_; intro gb521 hg w7 hbox hb; have BK521 := am_ (hbox); have GE521 := gw_ HB hg; replace HB := bs_ HB hb; have NB520_521 := nl_ BK520 hg; have NB521_520 := ng_ BK520 hg; replace BK520 := bb_ BK520 hb; clear hb hbox hg; have hnb8 := NB520_521.out; have hnc8 := NB521_520.out; obtain ⟨hcz9_0, hcz9_1, hcz9_2, hfz9_0, hfz9_1, hfz9_2⟩ := bO BK520.out; obtain ⟨hcz10_0, hcz10_1, hcz10_2, hfz10_0, hfz10_1, hfz10_2⟩ := bO BK521.out))
    go_ret
    exact ⟨u0_, bw_ HB⟩
   ·rw [if_neg c5] at H; have c5b0 := cT c5; have c5b1 := cV c5; obtain rfl := si_ H; go_enter Tryz.func121, Tryz.ntmps121
    go_wp2_with (first | ((with_reducible refine gt_ 2 ?_); refine bx_ 2 #[.string a0_0, .int .i64 a0_1, .int .i64 a0_2] 92 ?_; intro gb520 hg w11 hbox hb; have BK520 := am_ (hbox); have GE520 := gw_ HB hg; replace HB := bs_ HB hb; clear hb hbox hg) | ((with_reducible refine gt_ 3 ?_); refine bx_ 3 #[.string a1_0, .int .i64 a1_1, .int .i64 a1_2] 92 ?_; intro gb521 hg w12 hbox hb; have BK521 := am_ (hbox); have GE521 := gw_ HB hg; replace HB := bs_ HB hb; have NB520_521 := nl_ BK520 hg; have NB521_520 := ng_ BK520 hg; replace BK520 := bb_ BK520 hb; clear hb hbox hg; have hnb13 := NB520_521.out; have hnc13 := NB521_520.out; obtain ⟨hcz14_0, hcz14_1, hcz14_2, hfz14_0, hfz14_1, hfz14_2⟩ := bO BK520.out; obtain ⟨hcz15_0, hcz15_1, hcz15_2, hfz15_0, hfz15_1, hfz15_2⟩ := bO BK521.out))
    go_ret
    exact ⟨u0_, bw_ HB⟩
  ·rw [if_neg c4] at H; have c4b0 := cT c4; have c4b1 := cV c4; obtain rfl := si_ H; go_enter Tryz.func121, Tryz.ntmps121
   go_wp2_with (first | ((with_reducible refine gt_ 2 ?_); refine bx_ 2 #[.string a0_0, .int .i64 a0_1, .int .i64 a0_2] 92 ?_; intro gb520 hg w16 hbox hb; have BK520 := am_ (hbox); have GE520 := gw_ HB hg; replace HB := bs_ HB hb; clear hb hbox hg) | ((with_reducible refine gt_ 3 ?_); refine bx_ 3 #[.string a1_0, .int .i64 a1_1, .int .i64 a1_2] 92 ?_; intro gb521 hg w17 hbox hb; have BK521 := am_ (hbox); have GE521 := gw_ HB hg; replace HB := bs_ HB hb; have NB520_521 := nl_ BK520 hg; have NB521_520 := ng_ BK520 hg; replace BK520 := bb_ BK520 hb; clear hb hbox hg; have hnb18 := NB520_521.out; have hnc18 := NB521_520.out; obtain ⟨hcz19_0, hcz19_1, hcz19_2, hfz19_0, hfz19_1, hfz19_2⟩ := bO BK520.out; obtain ⟨hcz20_0, hcz20_1, hcz20_2, hfz20_0, hfz20_1, hfz20_2⟩ := bO BK521.out))
   go_ret
   exact ⟨u0_, bw_ HB⟩
 ·rw [if_neg c3] at H; have c3b0 := cT c3; have c3b1 := cV c3; obtain rfl := si_ H; go_enter Tryz.func121, Tryz.ntmps121
  go_wp2_with (first | ((with_reducible refine gt_ 2 ?_); refine bx_ 2 #[.string a0_0, .int .i64 a0_1, .int .i64 a0_2] 92 ?_; intro gb520 hg w21 hbox hb; have BK520 := am_ (hbox); have GE520 := gw_ HB hg; replace HB := bs_ HB hb; clear hb hbox hg) | ((with_reducible refine gt_ 3 ?_); refine bx_ 3 #[.string a1_0, .int .i64 a1_1, .int .i64 a1_2] 92 ?_; intro gb521 hg w22 hbox hb; have BK521 := am_ (hbox); have GE521 := gw_ HB hg; replace HB := bs_ HB hb; have NB520_521 := nl_ BK520 hg; have NB521_520 := ng_ BK520 hg; replace BK520 := bb_ BK520 hb; clear hb hbox hg; have hnb23 := NB520_521.out; have hnc23 := NB521_520.out; obtain ⟨hcz24_0, hcz24_1, hcz24_2, hfz24_0, hfz24_1, hfz24_2⟩ := bO BK520.out; obtain ⟨hcz25_0, hcz25_1, hcz25_2, hfz25_0, hfz25_1, hfz25_2⟩ := bO BK521.out))
  go_ret
  exact ⟨u0_, bw_ HB⟩
def aA.l0 : Nat → List (S92) → List (S92) → Int → Option (Bool)
 | 0, _, _, _ => none
 | k + 1, x0, x1, x5 => if x5 < (x0.length : Int) then (if 0 ≤ x5 then (if x5 < (x1.length : Int) then ((dQ.f ((an x0 x5).f0) ((an x0 x5).f1) ((an x0 x5).f2) ((an x1 x5).f0) ((an x1 x5).f1) ((an x1 x5).f2)).bind fun t524 => (if t524 = true then (aA.l0 k x0 x1 (wrap64 (x5 + 1))) else (some false))) else (none)) else (none)) else (some true)
def aA.f (k : Nat) (l0 : List (S92)) (l1 : List (S92)) : Option (Bool) := if (l0.length : Int) = (l1.length : Int) then (aA.l0 k l0 l1 0) else (some false)
def aA.T6 : Bool × List (List Nat × List Nat) := (true, [([], []), ([], []), ([0, 1], [0, 1]), ([2], [2]), ([], []), ([], []), ([4, 5], [4, 5]), ([6], [6]), ([3, 7], [3, 7]), ([8], [8])])
def aA.B6 : List Nat := [0, 0, 3, 7, 0, 0, 48, 112, 255, 511]
theorem aA.tab6 : dC .any (f4 Tryz.f70 6) = aA.T6 := by kernel_rfl
theorem aA.bits6 : dn aA.T6.2 aA.B6 = true := by kernel_rfl
theorem aA.calls (k : Nat) (A0 : Option Addr) (c0 : Nat) (l0 : List (S92)) (A1 : Option Addr) (c1 : Nat) (l1 : List (S92)) (r : Bool) (w : World) (hr0 : Kd.C k92 w A0 l0.length l0) (hc0 : l0.length ≤ c0) (hr1 : Kd.C k92 w A1 l1.length l1) (hc1 : l1.length ≤ c1) (h : aA.f k l0 l1 = some r) :
  Calls Tryz.prog 70 #[.slice A0 l0.length c0, .slice A1 l1.length c1] w fun e w' => e = .returned (.bool r) ∧ Below w.heap.size w w' := by
 have hu92 := Tryz.underlying92; have HR0 := am_ hr0; have HC0 := am_ hc0; clear hr0 hc0; have HR1 := am_ hr1; have HC1 := am_ hc1; clear hr1 hc1; have HB := am_ (Below.refl w.heap.size w); have H := h; clear h; unfold aA.f at H
 by_cases c3 : (l0.length : Int) = (l1.length : Int)
 ·rw [if_pos c3] at H; have c3b0 := cQ c3; have c3b1 := cO c3; have c3b2 : (l0.length == l1.length) = true := by first | simpa using c3 | (simp at c3 ⊢; omega)
  clear c3; have H' := am_ H; clear H; go_enter Tryz.func70, Tryz.ntmps70
  go_wp2; go_loopg [5] k (fun kq v5 w' => ∃ (x5_1 : Int), v5 = .int .i64 x5_1 ∧ aa (aA.l0 kq l0 l1 x5_1 = some r) ∧ aa (kq ≤ k) ∧ aa (Below w.heap.size w w'))
  case atStart => exact ⟨(0), u1_, H', ⟨Nat.le_refl _⟩, ⟨bw_ HB⟩⟩
  case round =>
   clear H'; try clear c1
   try clear c3
   try clear c3b0
   try clear c3b1
   try clear c3b2
   obtain ⟨x5_1, rfl, HA, HK1, HB⟩ := hrel; cases gk with
   | zero => exact absurd HA.out (by simp [aA.l0])
   | succ k1 =>
    have H := HA.out; clear HA; simp only [aA.l0] at H; by_cases c4 : x5_1 < (l0.length : Int)
    ·rw [if_pos c4] at H; have c4b0 := decide_eq_true c4; clear c4; obtain ⟨c5b0, H⟩ := gd_ H; obtain ⟨c6b0, H⟩ := gd_ H; obtain ⟨t524, A7, H⟩ := bi_ H; have HC_ := am_ H; clear H; try go_wp2
     replace HB := am_ (aQ HB.out); obtain ⟨ad522, e522, hx522_0, hx522_1, hx522_2⟩ := gH HR0.out x5_1 od_ od_; have hw522_2 := hx522_2; have hw522_1 := hx522_1; have hw522_0 := hx522_0; cases e522; replace hx522_0 := cb_ HB hx522_0; replace hx522_1 := cb_ HB hx522_1; replace hx522_2 := cb_ HB hx522_2; obtain ⟨p522, q522⟩ := pt_ x5_1 l0.length; obtain ⟨ad523, e523, hx523_0, hx523_1, hx523_2⟩ := gH HR1.out x5_1 od_ od_; have hw523_2 := hx523_2; have hw523_1 := hx523_1; have hw523_0 := hx523_0; cases e523; replace hx523_0 := cb_ HB hx523_0; replace hx523_1 := cb_ HB hx523_1; replace hx523_2 := cb_ HB hx523_2; obtain ⟨p523, q523⟩ := pt_ x5_1 l1.length; refine dk (n := 10) (S := fun w' => w'.cell? (ad522.add ((x5_1).toNat * 3)) = some (.string ((an l0 x5_1).f0)) ∧ w'.cell? ⟨(ad522.add ((x5_1).toNat * 3)).block, (ad522.add ((x5_1).toNat * 3)).off + 1, none⟩ = some (.int .i64 ((an l0 x5_1).f1)) ∧ w'.cell? ⟨(ad522.add ((x5_1).toNat * 3)).block, (ad522.add ((x5_1).toNat * 3)).off + 2, none⟩ = some (.int .i64 ((an l0 x5_1).f2)) ∧ w'.cell? (ad523.add ((x5_1).toNat * 3)) = some (.string ((an l1 x5_1).f0)) ∧ w'.cell? ⟨(ad523.add ((x5_1).toNat * 3)).block, (ad523.add ((x5_1).toNat * 3)).off + 1, none⟩ = some (.int .i64 ((an l1 x5_1).f1)) ∧ w'.cell? ⟨(ad523.add ((x5_1).toNat * 3)).block, (ad523.add ((x5_1).toNat * 3)).off + 2, none⟩ = some (.int .i64 ((an l1 x5_1).f2))) (ds := []) (bm_ 10 0) b9 rfl rfl ⟨(cc_ HB hw522_0), (cc_ HB hw522_1), (cc_ HB hw522_2), (cc_ HB hw523_0), (cc_ HB hw523_1), (cc_ HB hw523_2)⟩ (fun hHeld => ?_); refine bX aA.tab6 aA.bits6 (fun HT_ HW_ => ?_); generalize wr.drew = w11 at HB hx522_0 hx522_1 hx522_2 hx523_0 hx523_1 hx523_2 hHeld ⊢; refine pv_ 0 17 ?_; refine pv_ 1 18 ?_; refine pv_ 2 19 ?_; refine pv_ 4 21 ?_; refine pv_ 5 22 ?_; refine pv_ 6 23 ?_; refine tv_ 3 20 ?_; refine tv_ 7 24 ?_; refine ov_ 8 25 (fun K hK => ?_); refine oB_ Tryz.func121 (dQ.calls ((an l0 x5_1).f0) ((an l0 x5_1).f1) ((an l0 x5_1).f2) ((an l1 x5_1).f0) ((an l1 x5_1).f1) ((an l1 x5_1).f2) t524 _ A7.out) ?_; intro w12 hb; replace HB := bs_ HB hb; (try clear hb)
     refine hK.out _ _ ⟨(cc_ HB hw522_0), (cc_ HB hw522_1), (cc_ HB hw522_2), (cc_ HB hw523_0), (cc_ HB hw523_1), (cc_ HB hw523_2)⟩ (fun hHeld => ?_); clear hK K; refine nm_ ?_; refine pv_ 9 26 ?_; refine dn_ HT_ ?_; have H := HC_.out; clear HC_; cases t524
     ·replace H := hf_ H; obtain rfl := si_ H; try go_wp2
      go_ret
      exact ⟨u0_, bw_ HB⟩
     ·replace H := ht_ H; have H' := am_ H; clear H; try go_wp2
      go_roundg k1
      case measure => have := HK1.out; omega
      case rel => exact ⟨(wrap64 (x5_1 + 1)), u1_, H', ⟨dc⟩, ⟨bw_ HB⟩⟩
    ·rw [if_neg c4] at H; have c4b0 := decide_eq_false c4; clear c4; obtain rfl := si_ H; go_wp2; go_ret
     exact ⟨u0_, bw_ HB⟩
 ·rw [if_neg c3] at H; have c3b0 := cT c3; have c3b1 := cV c3; have c3b2 : (l0.length == l1.length) = false := by first | simpa using c3 | (simp at c3 ⊢; omega)
  obtain rfl := si_ H; go_enter Tryz.func70, Tryz.ntmps70
  go_wp2; go_ret
  exact ⟨u0_, bw_ HB⟩
def ef.f (a0_0 : ByteArray) (a0_1 : ByteArray) (a1_0 : ByteArray) (a1_1 : ByteArray) : Option (Bool) := if a0_0.toList = a1_0.toList then (if a0_1.toList = a1_1.toList then (some true) else (some false)) else (some false)
theorem ef.calls (a0_0 : ByteArray) (a0_1 : ByteArray) (a1_0 : ByteArray) (a1_1 : ByteArray) (r : Bool) (w : World) (h : ef.f a0_0 a0_1 a1_0 a1_1 = some r) :
  Calls Tryz.prog 124 #[.agg #[.string a0_0, .string a0_1], .agg #[.string a1_0, .string a1_1]] w fun e w' => e = .returned (.bool r) ∧ Below w.heap.size w w' := by
 have hu86 := Tryz.underlying86; have HB := am_ (Below.refl w.heap.size w); have H := h; clear h; unfold ef.f at H
 by_cases c3 : a0_0.toList = a1_0.toList
 ·rw [if_pos c3] at H; have c3b0 := cQ c3; have c3b1 := cO c3; clear c3; by_cases c4 : a0_1.toList = a1_1.toList
  ·rw [if_pos c4] at H; have c4b0 := cQ c4; have c4b1 := cO c4; clear c4; obtain rfl := si_ H; go_enter Tryz.func124, Tryz.ntmps124
   go_wp2_with (first | ((with_reducible refine gt_ 2 ?_); refine bx_ 2 #[.string a0_0, .string a0_1] 86 ?_; intro gb525 hg w5 hbox hb; have BK525 := am_ (hbox); have GE525 := gw_ HB hg; replace HB := bs_ HB hb; clear hb hbox hg) | ((with_reducible refine gt_ 3 ?_); refine bx_ 3 #[.string a1_0, .string a1_1] 86 ?_; intro gb526 hg w6 hbox hb; have BK526 := am_ (hbox); have GE526 := gw_ HB hg; replace HB := bs_ HB hb; have NB525_526 := nl_ BK525 hg; have NB526_525 := ng_ BK525 hg; replace BK525 := bb_ BK525 hb; clear hb hbox hg; have hnb7 := NB525_526.out; have hnc7 := NB526_525.out; obtain ⟨hcz8_0, hcz8_1, hfz8_0, hfz8_1⟩ := bK BK525.out; obtain ⟨hcz9_0, hcz9_1, hfz9_0, hfz9_1⟩ := bK BK526.out))
   go_ret
   exact ⟨u0_, bw_ HB⟩
  ·rw [if_neg c4] at H; have c4b0 := cT c4; have c4b1 := cV c4; obtain rfl := si_ H; go_enter Tryz.func124, Tryz.ntmps124
   go_wp2_with (first | ((with_reducible refine gt_ 2 ?_); refine bx_ 2 #[.string a0_0, .string a0_1] 86 ?_; intro gb525 hg w10 hbox hb; have BK525 := am_ (hbox); have GE525 := gw_ HB hg; replace HB := bs_ HB hb; clear hb hbox hg) | ((with_reducible refine gt_ 3 ?_); refine bx_ 3 #[.string a1_0, .string a1_1] 86 ?_; intro gb526 hg w11 hbox hb; have BK526 := am_ (hbox); have GE526 := gw_ HB hg; replace HB := bs_ HB hb; have NB525_526 := nl_ BK525 hg; have NB526_525 := ng_ BK525 hg; replace BK525 := bb_ BK525 hb; clear hb hbox hg; have hnb12 := NB525_526.out; have hnc12 := NB526_525.out; obtain ⟨hcz13_0, hcz13_1, hfz13_0, hfz13_1⟩ := bK BK525.out; obtain ⟨hcz14_0, hcz14_1, hfz14_0, hfz14_1⟩ := bK BK526.out))
   go_ret
   exact ⟨u0_, bw_ HB⟩
 ·rw [if_neg c3] at H; have c3b0 := cT c3; have c3b1 := cV c3; obtain rfl := si_ H; go_enter Tryz.func124, Tryz.ntmps124
  go_wp2_with (first | ((with_reducible refine gt_ 2 ?_); refine bx_ 2 #[.string a0_0, .string a0_1] 86 ?_; intro gb525 hg w15 hbox hb; have BK525 := am_ (hbox); have GE525 := gw_ HB hg; replace HB := bs_ HB hb; clear hb hbox hg) | ((with_reducible refine gt_ 3 ?_); refine bx_ 3 #[.string a1_0, .string a1_1] 86 ?_; intro gb526 hg w16 hbox hb; have BK526 := am_ (hbox); have GE526 := gw_ HB hg; replace HB := bs_ HB hb; have NB525_526 := nl_ BK525 hg; have NB526_525 := ng_ BK525 hg; replace BK525 := bb_ BK525 hb; clear hb hbox hg; have hnb17 := NB525_526.out; have hnc17 := NB526_525.out; obtain ⟨hcz18_0, hcz18_1, hfz18_0, hfz18_1⟩ := bK BK525.out; obtain ⟨hcz19_0, hcz19_1, hfz19_0, hfz19_1⟩ := bK BK526.out))
  go_ret
  exact ⟨u0_, bw_ HB⟩
def aV.l0 : Nat → List (S86) → List (S86) → Int → Option (Bool)
 | 0, _, _, _ => none
 | k + 1, x0, x1, x5 => if x5 < (x0.length : Int) then (if 0 ≤ x5 then (if x5 < (x1.length : Int) then ((ef.f ((ah x0 x5).f0) ((ah x0 x5).f1) ((ah x1 x5).f0) ((ah x1 x5).f1)).bind fun t529 => (if t529 = true then (aV.l0 k x0 x1 (wrap64 (x5 + 1))) else (some false))) else (none)) else (none)) else (some true)
def aV.f (k : Nat) (l0 : List (S86)) (l1 : List (S86)) : Option (Bool) := if (l0.length : Int) = (l1.length : Int) then (aV.l0 k l0 l1 0) else (some false)
def aV.T6 : Bool × List (List Nat × List Nat) := (true, [([], []), ([], []), ([0, 1], [0, 1]), ([2], [2]), ([], []), ([], []), ([4, 5], [4, 5]), ([6], [6]), ([3, 7], [3, 7]), ([8], [8])])
def aV.B6 : List Nat := [0, 0, 3, 7, 0, 0, 48, 112, 255, 511]
theorem aV.tab6 : dC .any (f4 Tryz.f74 6) = aV.T6 := by kernel_rfl
theorem aV.bits6 : dn aV.T6.2 aV.B6 = true := by kernel_rfl
theorem aV.calls (k : Nat) (A0 : Option Addr) (c0 : Nat) (l0 : List (S86)) (A1 : Option Addr) (c1 : Nat) (l1 : List (S86)) (r : Bool) (w : World) (hr0 : Kd.C k86 w A0 l0.length l0) (hc0 : l0.length ≤ c0) (hr1 : Kd.C k86 w A1 l1.length l1) (hc1 : l1.length ≤ c1) (h : aV.f k l0 l1 = some r) :
  Calls Tryz.prog 74 #[.slice A0 l0.length c0, .slice A1 l1.length c1] w fun e w' => e = .returned (.bool r) ∧ Below w.heap.size w w' := by
 have hu86 := Tryz.underlying86; have HR0 := am_ hr0; have HC0 := am_ hc0; clear hr0 hc0; have HR1 := am_ hr1; have HC1 := am_ hc1; clear hr1 hc1; have HB := am_ (Below.refl w.heap.size w); have H := h; clear h; unfold aV.f at H
 by_cases c3 : (l0.length : Int) = (l1.length : Int)
 ·rw [if_pos c3] at H; have c3b0 := cQ c3; have c3b1 := cO c3; have c3b2 : (l0.length == l1.length) = true := by first | simpa using c3 | (simp at c3 ⊢; omega)
  clear c3; have H' := am_ H; clear H; go_enter Tryz.func74, Tryz.ntmps74
  go_wp2; go_loopg [5] k (fun kq v5 w' => ∃ (x5_1 : Int), v5 = .int .i64 x5_1 ∧ aa (aV.l0 kq l0 l1 x5_1 = some r) ∧ aa (kq ≤ k) ∧ aa (Below w.heap.size w w'))
  case atStart => exact ⟨(0), u1_, H', ⟨Nat.le_refl _⟩, ⟨bw_ HB⟩⟩
  case round =>
   clear H'; try clear c1
   try clear c3
   try clear c3b0
   try clear c3b1
   try clear c3b2
   obtain ⟨x5_1, rfl, HA, HK1, HB⟩ := hrel; cases gk with
   | zero => exact absurd HA.out (by simp [aV.l0])
   | succ k1 =>
    have H := HA.out; clear HA; simp only [aV.l0] at H; by_cases c4 : x5_1 < (l0.length : Int)
    ·rw [if_pos c4] at H; have c4b0 := decide_eq_true c4; clear c4; obtain ⟨c5b0, H⟩ := gd_ H; obtain ⟨c6b0, H⟩ := gd_ H; obtain ⟨t529, A7, H⟩ := bi_ H; have HC_ := am_ H; clear H; try go_wp2
     replace HB := am_ (aQ HB.out); obtain ⟨ad527, e527, hx527_0, hx527_1⟩ := dp HR0.out x5_1 od_ od_; have hw527_1 := hx527_1; have hw527_0 := hx527_0; cases e527; replace hx527_0 := cb_ HB hx527_0; replace hx527_1 := cb_ HB hx527_1; obtain ⟨p527, q527⟩ := pt_ x5_1 l0.length; obtain ⟨ad528, e528, hx528_0, hx528_1⟩ := dp HR1.out x5_1 od_ od_; have hw528_1 := hx528_1; have hw528_0 := hx528_0; cases e528; replace hx528_0 := cb_ HB hx528_0; replace hx528_1 := cb_ HB hx528_1; obtain ⟨p528, q528⟩ := pt_ x5_1 l1.length; refine dk (n := 10) (S := fun w' => w'.cell? (ad527.add ((x5_1).toNat * 2)) = some (.string ((ah l0 x5_1).f0)) ∧ w'.cell? ⟨(ad527.add ((x5_1).toNat * 2)).block, (ad527.add ((x5_1).toNat * 2)).off + 1, none⟩ = some (.string ((ah l0 x5_1).f1)) ∧ w'.cell? (ad528.add ((x5_1).toNat * 2)) = some (.string ((ah l1 x5_1).f0)) ∧ w'.cell? ⟨(ad528.add ((x5_1).toNat * 2)).block, (ad528.add ((x5_1).toNat * 2)).off + 1, none⟩ = some (.string ((ah l1 x5_1).f1))) (ds := []) (bm_ 10 0) b9 rfl rfl ⟨(cc_ HB hw527_0), (cc_ HB hw527_1), (cc_ HB hw528_0), (cc_ HB hw528_1)⟩ (fun hHeld => ?_); refine bX aV.tab6 aV.bits6 (fun HT_ HW_ => ?_); generalize wr.drew = w11 at HB hx527_0 hx527_1 hx528_0 hx528_1 hHeld ⊢; refine pv_ 0 17 ?_; refine pv_ 1 18 ?_; refine pv_ 2 19 ?_; refine pv_ 4 21 ?_; refine pv_ 5 22 ?_; refine pv_ 6 23 ?_; refine tv_ 3 20 ?_; refine tv_ 7 24 ?_; refine ov_ 8 25 (fun K hK => ?_); refine oB_ Tryz.func124 (ef.calls ((ah l0 x5_1).f0) ((ah l0 x5_1).f1) ((ah l1 x5_1).f0) ((ah l1 x5_1).f1) t529 _ A7.out) ?_; intro w12 hb; replace HB := bs_ HB hb; (try clear hb)
     refine hK.out _ _ ⟨(cc_ HB hw527_0), (cc_ HB hw527_1), (cc_ HB hw528_0), (cc_ HB hw528_1)⟩ (fun hHeld => ?_); clear hK K; refine nm_ ?_; refine pv_ 9 26 ?_; refine dn_ HT_ ?_; have H := HC_.out; clear HC_; cases t529
     ·replace H := hf_ H; obtain rfl := si_ H; try go_wp2
      go_ret
      exact ⟨u0_, bw_ HB⟩
     ·replace H := ht_ H; have H' := am_ H; clear H; try go_wp2
      go_roundg k1
      case measure => have := HK1.out; omega
      case rel => exact ⟨(wrap64 (x5_1 + 1)), u1_, H', ⟨dc⟩, ⟨bw_ HB⟩⟩
    ·rw [if_neg c4] at H; have c4b0 := decide_eq_false c4; clear c4; obtain rfl := si_ H; go_wp2; go_ret
     exact ⟨u0_, bw_ HB⟩
 ·rw [if_neg c3] at H; have c3b0 := cT c3; have c3b1 := cV c3; have c3b2 : (l0.length == l1.length) = false := by first | simpa using c3 | (simp at c3 ⊢; omega)
  obtain rfl := si_ H; go_enter Tryz.func74, Tryz.ntmps74
  go_wp2; go_ret
  exact ⟨u0_, bw_ HB⟩
def dP.f (k : Nat) (a0_0 : ByteArray) (l0_1 : List (S86)) (a1_0 : ByteArray) (l1_1 : List (S86)) : Option (Bool) := if a0_0.toList = a1_0.toList then ((aV.f k l0_1 l1_1).bind fun t532 => (if t532 = true then (some true) else (some false))) else (some false)
theorem dP.calls (k : Nat) (a0_0 : ByteArray) (A0_1 : Option Addr) (c0_1 : Nat) (l0_1 : List (S86)) (a1_0 : ByteArray) (A1_1 : Option Addr) (c1_1 : Nat) (l1_1 : List (S86)) (r : Bool) (w : World) (hr0_1 : Kd.C k86 w A0_1 l0_1.length l0_1) (hc0_1 : l0_1.length ≤ c0_1) (hr1_1 : Kd.C k86 w A1_1 l1_1.length l1_1) (hc1_1 : l1_1.length ≤ c1_1) (h : dP.f k a0_0 l0_1 a1_0 l1_1 = some r) :
  Calls Tryz.prog 29 #[.agg #[.string a0_0, .slice A0_1 l0_1.length c0_1], .agg #[.string a1_0, .slice A1_1 l1_1.length c1_1]] w fun e w' => e = .returned (.bool r) ∧ Below w.heap.size w w' := by
 have hu44 := Tryz.underlying44; have HR0_1 := am_ hr0_1; have HC0_1 := am_ hc0_1; clear hr0_1 hc0_1; have HR1_1 := am_ hr1_1; have HC1_1 := am_ hc1_1; clear hr1_1 hc1_1; have HB := am_ (Below.refl w.heap.size w); have H := h; clear h; unfold dP.f at H
 by_cases c3 : a0_0.toList = a1_0.toList
 ·rw [if_pos c3] at H; have c3b0 := cQ c3; have c3b1 := cO c3; clear c3; obtain ⟨t532, A4, H⟩ := bi_ H; cases t532
  ·replace H := hf_ H; obtain rfl := si_ H; go_enter Tryz.func29, Tryz.ntmps29
   go_wp2_with (first | ((with_reducible refine gt_ 2 ?_); refine bx_ 2 #[.string a0_0, .slice A0_1 l0_1.length c0_1] 44 ?_; intro gb530 hg w12 hbox hb; have BK530 := am_ (hbox); have GE530 := gw_ HB hg; replace HB := bs_ HB hb; clear hb hbox hg) | ((with_reducible refine gt_ 3 ?_); refine bx_ 3 #[.string a1_0, .slice A1_1 l1_1.length c1_1] 44 ?_; intro gb531 hg w13 hbox hb; have BK531 := am_ (hbox); have GE531 := gw_ HB hg; replace HB := bs_ HB hb; have NB530_531 := nl_ BK530 hg; have NB531_530 := ng_ BK530 hg; replace BK530 := bb_ BK530 hb; clear hb hbox hg; have hnb14 := NB530_531.out; have hnc14 := NB531_530.out; obtain ⟨hcz15_0, hcz15_1, hfz15_0, hfz15_1⟩ := bK BK530.out; obtain ⟨hcz16_0, hcz16_1, hfz16_0, hfz16_1⟩ := bK BK531.out) | ((with_reducible refine gt_ 14 ?_); refine gB_ 14 Tryz.func74 (aV.calls k _ _ l0_1 _ _ l1_1 false _ (kc_ HR0_1 HB) HC0_1.out (kc_ HR1_1 HB) HC1_1.out A4.out) ?_; intro w17 hb; replace HB := bs_ HB hb; (try clear hb)))
   go_ret
   exact ⟨u0_, bw_ HB⟩
  ·replace H := ht_ H; obtain rfl := si_ H; go_enter Tryz.func29, Tryz.ntmps29
   go_wp2_with (first | ((with_reducible refine gt_ 2 ?_); refine bx_ 2 #[.string a0_0, .slice A0_1 l0_1.length c0_1] 44 ?_; intro gb530 hg w6 hbox hb; have BK530 := am_ (hbox); have GE530 := gw_ HB hg; replace HB := bs_ HB hb; clear hb hbox hg) | ((with_reducible refine gt_ 3 ?_); refine bx_ 3 #[.string a1_0, .slice A1_1 l1_1.length c1_1] 44 ?_; intro gb531 hg w7 hbox hb; have BK531 := am_ (hbox); have GE531 := gw_ HB hg; replace HB := bs_ HB hb; have NB530_531 := nl_ BK530 hg; have NB531_530 := ng_ BK530 hg; replace BK530 := bb_ BK530 hb; clear hb hbox hg; have hnb8 := NB530_531.out; have hnc8 := NB531_530.out; obtain ⟨hcz9_0, hcz9_1, hfz9_0, hfz9_1⟩ := bK BK530.out; obtain ⟨hcz10_0, hcz10_1, hfz10_0, hfz10_1⟩ := bK BK531.out) | ((with_reducible refine gt_ 14 ?_); refine gB_ 14 Tryz.func74 (aV.calls k _ _ l0_1 _ _ l1_1 true _ (kc_ HR0_1 HB) HC0_1.out (kc_ HR1_1 HB) HC1_1.out A4.out) ?_; intro w11 hb; replace HB := bs_ HB hb; (try clear hb)))
   go_ret
   exact ⟨u0_, bw_ HB⟩
 ·rw [if_neg c3] at H; have c3b0 := cT c3; have c3b1 := cV c3; obtain rfl := si_ H; go_enter Tryz.func29, Tryz.ntmps29
  go_wp2_with (first | ((with_reducible refine gt_ 2 ?_); refine bx_ 2 #[.string a0_0, .slice A0_1 l0_1.length c0_1] 44 ?_; intro gb530 hg w18 hbox hb; have BK530 := am_ (hbox); have GE530 := gw_ HB hg; replace HB := bs_ HB hb; clear hb hbox hg) | ((with_reducible refine gt_ 3 ?_); refine bx_ 3 #[.string a1_0, .slice A1_1 l1_1.length c1_1] 44 ?_; intro gb531 hg w19 hbox hb; have BK531 := am_ (hbox); have GE531 := gw_ HB hg; replace HB := bs_ HB hb; have NB530_531 := nl_ BK530 hg; have NB531_530 := ng_ BK530 hg; replace BK530 := bb_ BK530 hb; clear hb hbox hg; have hnb20 := NB530_531.out; have hnc20 := NB531_530.out; obtain ⟨hcz21_0, hcz21_1, hfz21_0, hfz21_1⟩ := bK BK530.out; obtain ⟨hcz22_0, hcz22_1, hfz22_0, hfz22_1⟩ := bK BK531.out))
  go_ret
  exact ⟨u0_, bw_ HB⟩
def eL.f (k : Nat) (a0_0 : Int) (a0_1 : ByteArray) (l0_2 : List (S86)) (a1_0 : Int) (a1_1 : ByteArray) (l1_2 : List (S86)) : Option (Bool) := if a0_0 = a1_0 then ((dP.f k a0_1 l0_2 a1_1 l1_2).bind fun t535 => (if t535 = true then (some true) else (some false))) else (some false)
theorem eL.calls (k : Nat) (a0_0 : Int) (a0_1 : ByteArray) (A0_2 : Option Addr) (c0_2 : Nat) (l0_2 : List (S86)) (a1_0 : Int) (a1_1 : ByteArray) (A1_2 : Option Addr) (c1_2 : Nat) (l1_2 : List (S86)) (r : Bool) (w : World) (hr0_2 : Kd.C k86 w A0_2 l0_2.length l0_2) (hc0_2 : l0_2.length ≤ c0_2) (hr1_2 : Kd.C k86 w A1_2 l1_2.length l1_2) (hc1_2 : l1_2.length ≤ c1_2) (h : eL.f k a0_0 a0_1 l0_2 a1_0 a1_1 l1_2 = some r) :
  Calls Tryz.prog 122 #[.agg #[.int .i64 a0_0, .string a0_1, .slice A0_2 l0_2.length c0_2], .agg #[.int .i64 a1_0, .string a1_1, .slice A1_2 l1_2.length c1_2]] w fun e w' => e = .returned (.bool r) ∧ Below w.heap.size w w' := by
 have hu46 := Tryz.underlying46; have hu44 := Tryz.underlying44; have HR0_2 := am_ hr0_2; have HC0_2 := am_ hc0_2; clear hr0_2 hc0_2; have HR1_2 := am_ hr1_2; have HC1_2 := am_ hc1_2; clear hr1_2 hc1_2; have HB := am_ (Below.refl w.heap.size w); have H := h; clear h; unfold eL.f at H
 by_cases c3 : a0_0 = a1_0
 ·rw [if_pos c3] at H; have c3b0 := cQ c3; have c3b1 := cO c3; clear c3; obtain ⟨t535, A4, H⟩ := bi_ H; cases t535
  ·replace H := hf_ H; obtain rfl := si_ H; go_enter Tryz.func122, Tryz.ntmps122
   go_wp2_with (first | ((with_reducible refine gt_ 2 ?_); refine bx_ 2 #[.int .i64 a0_0, .string a0_1, .slice A0_2 l0_2.length c0_2] 46 ?_; intro gb533 hg w12 hbox hb; have BK533 := am_ (hbox); have GE533 := gw_ HB hg; replace HB := bs_ HB hb; clear hb hbox hg) | ((with_reducible refine gt_ 3 ?_); refine bx_ 3 #[.int .i64 a1_0, .string a1_1, .slice A1_2 l1_2.length c1_2] 46 ?_; intro gb534 hg w13 hbox hb; have BK534 := am_ (hbox); have GE534 := gw_ HB hg; replace HB := bs_ HB hb; have NB533_534 := nl_ BK533 hg; have NB534_533 := ng_ BK533 hg; replace BK533 := bb_ BK533 hb; clear hb hbox hg; have hnb14 := NB533_534.out; have hnc14 := NB534_533.out; obtain ⟨hcz15_0, hcz15_1, hcz15_2, hfz15_0, hfz15_1, hfz15_2⟩ := bO BK533.out; obtain ⟨hcz16_0, hcz16_1, hcz16_2, hfz16_0, hfz16_1, hfz16_2⟩ := bO BK534.out) | ((with_reducible refine gt_ 14 ?_); refine gB_ 14 Tryz.func29 (dP.calls k a0_1 _ _ l0_2 a1_1 _ _ l1_2 false _ (kc_ HR0_2 HB) HC0_2.out (kc_ HR1_2 HB) HC1_2.out A4.out) ?_; intro w17 hb; replace HB := bs_ HB hb; (try clear hb)))
   go_ret
   exact ⟨u0_, bw_ HB⟩
  ·replace H := ht_ H; obtain rfl := si_ H; go_enter Tryz.func122, Tryz.ntmps122
   go_wp2_with (first | ((with_reducible refine gt_ 2 ?_); refine bx_ 2 #[.int .i64 a0_0, .string a0_1, .slice A0_2 l0_2.length c0_2] 46 ?_; intro gb533 hg w6 hbox hb; have BK533 := am_ (hbox); have GE533 := gw_ HB hg; replace HB := bs_ HB hb; clear hb hbox hg) | ((with_reducible refine gt_ 3 ?_); refine bx_ 3 #[.int .i64 a1_0, .string a1_1, .slice A1_2 l1_2.length c1_2] 46 ?_; intro gb534 hg w7 hbox hb; have BK534 := am_ (hbox); have GE534 := gw_ HB hg; replace HB := bs_ HB hb; have NB533_534 := nl_ BK533 hg; have NB534_533 := ng_ BK533 hg; replace BK533 := bb_ BK533 hb; clear hb hbox hg; have hnb8 := NB533_534.out; have hnc8 := NB534_533.out; obtain ⟨hcz9_0, hcz9_1, hcz9_2, hfz9_0, hfz9_1, hfz9_2⟩ := bO BK533.out; obtain ⟨hcz10_0, hcz10_1, hcz10_2, hfz10_0, hfz10_1, hfz10_2⟩ := bO BK534.out) | ((with_reducible refine gt_ 14 ?_); refine gB_ 14 Tryz.func29 (dP.calls k a0_1 _ _ l0_2 a1_1 _ _ l1_2 true _ (kc_ HR0_2 HB) HC0_2.out (kc_ HR1_2 HB) HC1_2.out A4.out) ?_; intro w11 hb; replace HB := bs_ HB hb; (try clear hb)))
   go_ret
   exact ⟨u0_, bw_ HB⟩
 ·rw [if_neg c3] at H; have c3b0 := cT c3; have c3b1 := cV c3; obtain rfl := si_ H; go_enter Tryz.func122, Tryz.ntmps122
  go_wp2_with (first | ((with_reducible refine gt_ 2 ?_); refine bx_ 2 #[.int .i64 a0_0, .string a0_1, .slice A0_2 l0_2.length c0_2] 46 ?_; intro gb533 hg w18 hbox hb; have BK533 := am_ (hbox); have GE533 := gw_ HB hg; replace HB := bs_ HB hb; clear hb hbox hg) | ((with_reducible refine gt_ 3 ?_); refine bx_ 3 #[.int .i64 a1_0, .string a1_1, .slice A1_2 l1_2.length c1_2] 46 ?_; intro gb534 hg w19 hbox hb; have BK534 := am_ (hbox); have GE534 := gw_ HB hg; replace HB := bs_ HB hb; have NB533_534 := nl_ BK533 hg; have NB534_533 := ng_ BK533 hg; replace BK533 := bb_ BK533 hb; clear hb hbox hg; have hnb20 := NB533_534.out; have hnc20 := NB534_533.out; obtain ⟨hcz21_0, hcz21_1, hcz21_2, hfz21_0, hfz21_1, hfz21_2⟩ := bO BK533.out; obtain ⟨hcz22_0, hcz22_1, hcz22_2, hfz22_0, hfz22_1, hfz22_2⟩ := bO BK534.out))
  go_ret
  exact ⟨u0_, bw_ HB⟩
def a7.l0 : Nat → List (S46) → List (S46) → Int → Option (Bool)
 | 0, _, _, _ => none
 | k + 1, x0, x1, x5 => if x5 < (x0.length : Int) then (if 0 ≤ x5 then (if x5 < (x1.length : Int) then ((eL.f k ((ac x0 x5).f0) ((ac x0 x5).f1.f0) ((ac x0 x5).f1.f1) ((ac x1 x5).f0) ((ac x1 x5).f1.f0) ((ac x1 x5).f1.f1)).bind fun t538 => (if t538 = true then (a7.l0 k x0 x1 (wrap64 (x5 + 1))) else (some false))) else (none)) else (none)) else (some true)
def a7.f (k : Nat) (l0 : List (S46)) (l1 : List (S46)) : Option (Bool) := if (l0.length : Int) = (l1.length : Int) then (a7.l0 k l0 l1 0) else (some false)
def a7.T6 : Bool × List (List Nat × List Nat) := (true, [([], []), ([], []), ([0, 1], [0, 1]), ([2], [2]), ([], []), ([], []), ([4, 5], [4, 5]), ([6], [6]), ([3, 7], [3, 7]), ([8], [8])])
def a7.B6 : List Nat := [0, 0, 3, 7, 0, 0, 48, 112, 255, 511]
theorem a7.tab6 : dC .any (f4 Tryz.f71 6) = a7.T6 := by kernel_rfl
theorem a7.bits6 : dn a7.T6.2 a7.B6 = true := by kernel_rfl
theorem a7.calls (k : Nat) (A0 : Option Addr) (c0 : Nat) (l0 : List (S46)) (A1 : Option Addr) (c1 : Nat) (l1 : List (S46)) (r : Bool) (w : World) (hr0 : Kd.C k46 w A0 l0.length l0) (hc0 : l0.length ≤ c0) (hr1 : Kd.C k46 w A1 l1.length l1) (hc1 : l1.length ≤ c1) (h : a7.f k l0 l1 = some r) :
  Calls Tryz.prog 71 #[.slice A0 l0.length c0, .slice A1 l1.length c1] w fun e w' => e = .returned (.bool r) ∧ Below w.heap.size w w' := by
 have hu46 := Tryz.underlying46; have HR0 := am_ hr0; have HC0 := am_ hc0; clear hr0 hc0; have HR1 := am_ hr1; have HC1 := am_ hc1; clear hr1 hc1; have HB := am_ (Below.refl w.heap.size w); have H := h; clear h; unfold a7.f at H
 by_cases c3 : (l0.length : Int) = (l1.length : Int)
 ·rw [if_pos c3] at H; have c3b0 := cQ c3; have c3b1 := cO c3; have c3b2 : (l0.length == l1.length) = true := by first | simpa using c3 | (simp at c3 ⊢; omega)
  clear c3; have H' := am_ H; clear H; go_enter Tryz.func71, Tryz.ntmps71
  go_wp2; go_loopg [5] k (fun kq v5 w' => ∃ (x5_1 : Int), v5 = .int .i64 x5_1 ∧ aa (a7.l0 kq l0 l1 x5_1 = some r) ∧ aa (kq ≤ k) ∧ aa (Below w.heap.size w w'))
  case atStart => exact ⟨(0), u1_, H', ⟨Nat.le_refl _⟩, ⟨bw_ HB⟩⟩
  case round =>
   clear H'; try clear c1
   try clear c3
   try clear c3b0
   try clear c3b1
   try clear c3b2
   obtain ⟨x5_1, rfl, HA, HK1, HB⟩ := hrel; cases gk with
   | zero => exact absurd HA.out (by simp [a7.l0])
   | succ k1 =>
    have H := HA.out; clear HA; simp only [a7.l0] at H; by_cases c4 : x5_1 < (l0.length : Int)
    ·rw [if_pos c4] at H; have c4b0 := decide_eq_true c4; clear c4; obtain ⟨c5b0, H⟩ := gd_ H; obtain ⟨c6b0, H⟩ := gd_ H; obtain ⟨t538, A7, H⟩ := bi_ H; have HC_ := am_ H; clear H; try go_wp2
     replace HB := am_ (aQ HB.out); obtain ⟨ad536, A536_2, c536_2, e536, hx536_0, hx536_1, hx536_2, hl536_2, hi536_2⟩ := fP HR0.out x5_1 od_ od_; have hw536_2 := hx536_2; have hw536_1 := hx536_1; have hw536_0 := hx536_0; cases e536; replace hx536_0 := cb_ HB hx536_0; replace hx536_1 := cb_ HB hx536_1; replace hx536_2 := cb_ HB hx536_2; have HR536_2 := am_ hi536_2; have HC536_2 := am_ hl536_2; clear hi536_2 hl536_2; obtain ⟨p536, q536⟩ := pt_ x5_1 l0.length; obtain ⟨ad537, A537_2, c537_2, e537, hx537_0, hx537_1, hx537_2, hl537_2, hi537_2⟩ := fP HR1.out x5_1 od_ od_; have hw537_2 := hx537_2; have hw537_1 := hx537_1; have hw537_0 := hx537_0; cases e537; replace hx537_0 := cb_ HB hx537_0; replace hx537_1 := cb_ HB hx537_1; replace hx537_2 := cb_ HB hx537_2; have HR537_2 := am_ hi537_2; have HC537_2 := am_ hl537_2; clear hi537_2 hl537_2; obtain ⟨p537, q537⟩ := pt_ x5_1 l1.length; refine dk (n := 10) (S := fun w' => w'.cell? (ad536.add ((x5_1).toNat * 3)) = some (.int .i64 ((ac l0 x5_1).f0)) ∧ w'.cell? ⟨(ad536.add ((x5_1).toNat * 3)).block, (ad536.add ((x5_1).toNat * 3)).off + 1, none⟩ = some (.string ((ac l0 x5_1).f1.f0)) ∧ w'.cell? ⟨(ad536.add ((x5_1).toNat * 3)).block, (ad536.add ((x5_1).toNat * 3)).off + 2, none⟩ = some (.slice A536_2 ((ac l0 x5_1).f1.f1).length c536_2) ∧ w'.cell? (ad537.add ((x5_1).toNat * 3)) = some (.int .i64 ((ac l1 x5_1).f0)) ∧ w'.cell? ⟨(ad537.add ((x5_1).toNat * 3)).block, (ad537.add ((x5_1).toNat * 3)).off + 1, none⟩ = some (.string ((ac l1 x5_1).f1.f0)) ∧ w'.cell? ⟨(ad537.add ((x5_1).toNat * 3)).block, (ad537.add ((x5_1).toNat * 3)).off + 2, none⟩ = some (.slice A537_2 ((ac l1 x5_1).f1.f1).length c537_2)) (ds := []) (bm_ 10 0) b9 rfl rfl ⟨(cc_ HB hw536_0), (cc_ HB hw536_1), (cc_ HB hw536_2), (cc_ HB hw537_0), (cc_ HB hw537_1), (cc_ HB hw537_2)⟩ (fun hHeld => ?_); refine bX a7.tab6 a7.bits6 (fun HT_ HW_ => ?_); generalize wr.drew = w11 at HB HR536_2 HR537_2 hx536_0 hx536_1 hx536_2 hx537_0 hx537_1 hx537_2 hHeld ⊢; refine pv_ 0 17 ?_; refine pv_ 1 18 ?_; refine pv_ 2 19 ?_; refine pv_ 4 21 ?_; refine pv_ 5 22 ?_; refine pv_ 6 23 ?_; refine tv_ 3 20 ?_; refine tv_ 7 24 ?_; refine ov_ 8 25 (fun K hK => ?_); refine oB_ Tryz.func122 (eL.calls k1 ((ac l0 x5_1).f0) ((ac l0 x5_1).f1.f0) _ _ ((ac l0 x5_1).f1.f1) ((ac l1 x5_1).f0) ((ac l1 x5_1).f1.f0) _ _ ((ac l1 x5_1).f1.f1) t538 _ (kc_ HR536_2 HB) HC536_2.out (kc_ HR537_2 HB) HC537_2.out A7.out) ?_; intro w12 hb; replace HB := bs_ HB hb; (try clear hb)
     refine hK.out _ _ ⟨(cc_ HB hw536_0), (cc_ HB hw536_1), (cc_ HB hw536_2), (cc_ HB hw537_0), (cc_ HB hw537_1), (cc_ HB hw537_2)⟩ (fun hHeld => ?_); clear hK K; refine nm_ ?_; refine pv_ 9 26 ?_; refine dn_ HT_ ?_; have H := HC_.out; clear HC_; cases t538
     ·replace H := hf_ H; obtain rfl := si_ H; try go_wp2
      go_ret
      exact ⟨u0_, bw_ HB⟩
     ·replace H := ht_ H; have H' := am_ H; clear H; try go_wp2
      go_roundg k1
      case measure => have := HK1.out; omega
      case rel => exact ⟨(wrap64 (x5_1 + 1)), u1_, H', ⟨dc⟩, ⟨bw_ HB⟩⟩
    ·rw [if_neg c4] at H; have c4b0 := decide_eq_false c4; clear c4; obtain rfl := si_ H; go_wp2; go_ret
     exact ⟨u0_, bw_ HB⟩
 ·rw [if_neg c3] at H; have c3b0 := cT c3; have c3b1 := cV c3; have c3b2 : (l0.length == l1.length) = false := by first | simpa using c3 | (simp at c3 ⊢; omega)
  obtain rfl := si_ H; go_enter Tryz.func71, Tryz.ntmps71
  go_wp2; go_ret
  exact ⟨u0_, bw_ HB⟩
def ca.l0 : Nat → List Int → List Int → Int → Option (Bool)
 | 0, _, _, _ => none
 | k + 1, x0, x1, x5 => if x5 < (x0.length : Int) then (if 0 ≤ x5 then (if x5 < (x1.length : Int) then (if (rd x0 x5) = (rd x1 x5) then (ca.l0 k x0 x1 (wrap64 (x5 + 1))) else (some false)) else (none)) else (none)) else (some true)
def ca.f (k : Nat) (l0 : List Int) (l1 : List Int) : Option (Bool) := if (l0.length : Int) = (l1.length : Int) then (ca.l0 k l0 l1 0) else (some false)
theorem ca.calls (k : Nat) (A0 : Option Addr) (c0 : Nat) (l0 : List Int) (A1 : Option Addr) (c1 : Nat) (l1 : List Int) (r : Bool) (w : World) (hr0 : Kd.C (Kd.int .i64) w A0 l0.length l0) (hc0 : l0.length ≤ c0) (hr1 : Kd.C (Kd.int .i64) w A1 l1.length l1) (hc1 : l1.length ≤ c1) (h : ca.f k l0 l1 = some r) :
  Calls Tryz.prog 125 #[.slice A0 l0.length c0, .slice A1 l1.length c1] w fun e w' => e = .returned (.bool r) ∧ Drawn0 w w' := by
 have HR0 := am_ hr0; have HC0 := am_ hc0; clear hr0 hc0; have HR1 := am_ hr1; have HC1 := am_ hc1; clear hr1 hc1; have H := h; clear h; unfold ca.f at H
 by_cases c3 : (l0.length : Int) = (l1.length : Int)
 ·rw [if_pos c3] at H; have c3b0 := cQ c3; have c3b1 := cO c3; have c3b2 : (l0.length == l1.length) = true := by first | simpa using c3 | (simp at c3 ⊢; omega)
  clear c3; have H' := am_ H; clear H; go_enter Tryz.func125, Tryz.ntmps125
  go_wp2; repeat (go_quiet (fail); try go_wp2)
  go_loopg [5] k (fun kq v5 w' => ∃ (x5_1 : Int), v5 = .int .i64 x5_1 ∧ aa (ca.l0 kq l0 l1 x5_1 = some r) ∧ aa (kq ≤ k) ∧ Drawn0 w w')
  case atStart => exact ⟨(0), u1_, H', ⟨Nat.le_refl _⟩, u3_⟩
  case round =>
   clear H'; try clear c1
   try clear c3
   try clear c3b0
   try clear c3b1
   try clear c3b2
   obtain ⟨x5_1, rfl, HA, HK1, ⟨m1, rfl⟩⟩ := hrel; cases gk with
   | zero => exact absurd HA.out (by simp [ca.l0])
   | succ k1 =>
    have H := HA.out; clear HA; simp only [ca.l0] at H; by_cases c4 : x5_1 < (l0.length : Int)
    ·rw [if_pos c4] at H; have c4b0 := decide_eq_true c4; clear c4; obtain ⟨c5b0, H⟩ := gd_ H; obtain ⟨c6b0, H⟩ := gd_ H; have HC_ := am_ H; clear H; obtain ⟨ad539, e539, hx539_0⟩ := Kd.at_int HR0.out x5_1 od_ od_; cases e539; obtain ⟨p539, q539⟩ := pt_ x5_1 l0.length; obtain ⟨ad540, e540, hx540_0⟩ := Kd.at_int HR1.out x5_1 od_ od_; cases e540; obtain ⟨p540, q540⟩ := pt_ x5_1 l1.length; have H := HC_.out; clear HC_; by_cases c7 : (rd l0 x5_1) = (rd l1 x5_1)
     ·rw [if_pos c7] at H; have c7b0 := cQ c7; have c7b1 := cO c7; clear c7; have H' := am_ H; clear H; (first | rw [c7b0] | (simp only [ao, au]; rw [c7b0]) | skip)
      go_wp2; repeat (go_quiet (fail); try go_wp2)
      go_roundg k1
      case measure => have := HK1.out; omega
      case rel => exact ⟨(wrap64 (x5_1 + 1)), u1_, H', ⟨dc⟩, u3_⟩
     ·rw [if_neg c7] at H; have c7b0 := cT c7; have c7b1 := cV c7; obtain rfl := si_ H; (first | rw [c7b0] | (simp only [ao, au]; rw [c7b0]) | skip)
      go_wp2; repeat (go_quiet (fail); try go_wp2)
      go_ret
      exact ⟨u4_, u3_⟩
    ·rw [if_neg c4] at H; have c4b0 := decide_eq_false c4; clear c4; obtain rfl := si_ H; go_wp2; repeat (go_quiet (fail); try go_wp2)
     go_ret
     exact ⟨u4_, u3_⟩
 ·rw [if_neg c3] at H; have c3b0 := cT c3; have c3b1 := cV c3; have c3b2 : (l0.length == l1.length) = false := by first | simpa using c3 | (simp at c3 ⊢; omega)
  obtain rfl := si_ H; go_enter Tryz.func125, Tryz.ntmps125
  go_wp2; repeat (go_quiet (fail); try go_wp2)
  go_ret
  exact ⟨u4_, u3_⟩
def eh.f (k : Nat) (a0_0 : Int) (l0_1 : List Int) (a1_0 : Int) (l1_1 : List Int) : Option (Bool) := if a0_0 = a1_0 then ((ca.f k l0_1 l1_1).bind fun t543 => (if t543 = true then (some true) else (some false))) else (some false)
theorem eh.calls (k : Nat) (a0_0 : Int) (A0_1 : Option Addr) (c0_1 : Nat) (l0_1 : List Int) (a1_0 : Int) (A1_1 : Option Addr) (c1_1 : Nat) (l1_1 : List Int) (r : Bool) (w : World) (hr0_1 : Kd.C (Kd.int .i64) w A0_1 l0_1.length l0_1) (hc0_1 : l0_1.length ≤ c0_1) (hr1_1 : Kd.C (Kd.int .i64) w A1_1 l1_1.length l1_1) (hc1_1 : l1_1.length ≤ c1_1) (h : eh.f k a0_0 l0_1 a1_0 l1_1 = some r) :
  Calls Tryz.prog 80 #[.agg #[.int .i64 a0_0, .slice A0_1 l0_1.length c0_1], .agg #[.int .i64 a1_0, .slice A1_1 l1_1.length c1_1]] w fun e w' => e = .returned (.bool r) ∧ Below w.heap.size w w' := by
 have hu50 := Tryz.underlying50; have HR0_1 := am_ hr0_1; have HC0_1 := am_ hc0_1; clear hr0_1 hc0_1; have HR1_1 := am_ hr1_1; have HC1_1 := am_ hc1_1; clear hr1_1 hc1_1; have HB := am_ (Below.refl w.heap.size w); have H := h; clear h; unfold eh.f at H
 by_cases c3 : a0_0 = a1_0
 ·rw [if_pos c3] at H; have c3b0 := cQ c3; have c3b1 := cO c3; clear c3; obtain ⟨t543, A4, H⟩ := bi_ H; cases t543
  ·replace H := hf_ H; obtain rfl := si_ H; go_enter Tryz.func80, Tryz.ntmps80
   go_wp2_with (first | ((with_reducible refine gt_ 2 ?_); refine bx_ 2 #[.int .i64 a0_0, .slice A0_1 l0_1.length c0_1] 50 ?_; intro gb541 hg w11 hbox hb; have BK541 := am_ (hbox); have GE541 := gw_ HB hg; replace HB := bs_ HB hb; clear hb hbox hg) | ((with_reducible refine gt_ 3 ?_); refine bx_ 3 #[.int .i64 a1_0, .slice A1_1 l1_1.length c1_1] 50 ?_; intro gb542 hg w12 hbox hb; have BK542 := am_ (hbox); have GE542 := gw_ HB hg; replace HB := bs_ HB hb; have NB541_542 := nl_ BK541 hg; have NB542_541 := ng_ BK541 hg; replace BK541 := bb_ BK541 hb; clear hb hbox hg; have hnb13 := NB541_542.out; have hnc13 := NB542_541.out; obtain ⟨hcz14_0, hcz14_1, hfz14_0, hfz14_1⟩ := bK BK541.out; obtain ⟨hcz15_0, hcz15_1, hfz15_0, hfz15_1⟩ := bK BK542.out) | ((with_reducible refine gt_ 14 ?_); refine gD_ 14 Tryz.func125 (ca.calls k _ _ l0_1 _ _ l1_1 false _ (kc_ HR0_1 HB) HC0_1.out (kc_ HR1_1 HB) HC1_1.out A4.out) ?_; intro nd))
   go_ret
   exact ⟨u0_, bw_ HB⟩
  ·replace H := ht_ H; obtain rfl := si_ H; go_enter Tryz.func80, Tryz.ntmps80
   go_wp2_with (first | ((with_reducible refine gt_ 2 ?_); refine bx_ 2 #[.int .i64 a0_0, .slice A0_1 l0_1.length c0_1] 50 ?_; intro gb541 hg w6 hbox hb; have BK541 := am_ (hbox); have GE541 := gw_ HB hg; replace HB := bs_ HB hb; clear hb hbox hg) | ((with_reducible refine gt_ 3 ?_); refine bx_ 3 #[.int .i64 a1_0, .slice A1_1 l1_1.length c1_1] 50 ?_; intro gb542 hg w7 hbox hb; have BK542 := am_ (hbox); have GE542 := gw_ HB hg; replace HB := bs_ HB hb; have NB541_542 := nl_ BK541 hg; have NB542_541 := ng_ BK541 hg; replace BK541 := bb_ BK541 hb; clear hb hbox hg; have hnb8 := NB541_542.out; have hnc8 := NB542_541.out; obtain ⟨hcz9_0, hcz9_1, hfz9_0, hfz9_1⟩ := bK BK541.out; obtain ⟨hcz10_0, hcz10_1, hfz10_0, hfz10_1⟩ := bK BK542.out) | ((with_reducible refine gt_ 14 ?_); refine gD_ 14 Tryz.func125 (ca.calls k _ _ l0_1 _ _ l1_1 true _ (kc_ HR0_1 HB) HC0_1.out (kc_ HR1_1 HB) HC1_1.out A4.out) ?_; intro nd))
   go_ret
   exact ⟨u0_, bw_ HB⟩
 ·rw [if_neg c3] at H; have c3b0 := cT c3; have c3b1 := cV c3; obtain rfl := si_ H; go_enter Tryz.func80, Tryz.ntmps80
  go_wp2_with (first | ((with_reducible refine gt_ 2 ?_); refine bx_ 2 #[.int .i64 a0_0, .slice A0_1 l0_1.length c0_1] 50 ?_; intro gb541 hg w16 hbox hb; have BK541 := am_ (hbox); have GE541 := gw_ HB hg; replace HB := bs_ HB hb; clear hb hbox hg) | ((with_reducible refine gt_ 3 ?_); refine bx_ 3 #[.int .i64 a1_0, .slice A1_1 l1_1.length c1_1] 50 ?_; intro gb542 hg w17 hbox hb; have BK542 := am_ (hbox); have GE542 := gw_ HB hg; replace HB := bs_ HB hb; have NB541_542 := nl_ BK541 hg; have NB542_541 := ng_ BK541 hg; replace BK541 := bb_ BK541 hb; clear hb hbox hg; have hnb18 := NB541_542.out; have hnc18 := NB542_541.out; obtain ⟨hcz19_0, hcz19_1, hfz19_0, hfz19_1⟩ := bK BK541.out; obtain ⟨hcz20_0, hcz20_1, hfz20_0, hfz20_1⟩ := bK BK542.out))
  go_ret
  exact ⟨u0_, bw_ HB⟩
def aX.l0 : Nat → List (S50) → List (S50) → Int → Option (Bool)
 | 0, _, _, _ => none
 | k + 1, x0, x1, x5 => if x5 < (x0.length : Int) then (if 0 ≤ x5 then (if x5 < (x1.length : Int) then ((eh.f k ((bb x0 x5).f0) ((bb x0 x5).f1) ((bb x1 x5).f0) ((bb x1 x5).f1)).bind fun t546 => (if t546 = true then (aX.l0 k x0 x1 (wrap64 (x5 + 1))) else (some false))) else (none)) else (none)) else (some true)
def aX.f (k : Nat) (l0 : List (S50)) (l1 : List (S50)) : Option (Bool) := if (l0.length : Int) = (l1.length : Int) then (aX.l0 k l0 l1 0) else (some false)
def aX.T6 : Bool × List (List Nat × List Nat) := (true, [([], []), ([], []), ([0, 1], [0, 1]), ([2], [2]), ([], []), ([], []), ([4, 5], [4, 5]), ([6], [6]), ([3, 7], [3, 7]), ([8], [8])])
def aX.B6 : List Nat := [0, 0, 3, 7, 0, 0, 48, 112, 255, 511]
theorem aX.tab6 : dC .any (f4 Tryz.f33 6) = aX.T6 := by kernel_rfl
theorem aX.bits6 : dn aX.T6.2 aX.B6 = true := by kernel_rfl
theorem aX.calls (k : Nat) (A0 : Option Addr) (c0 : Nat) (l0 : List (S50)) (A1 : Option Addr) (c1 : Nat) (l1 : List (S50)) (r : Bool) (w : World) (hr0 : Kd.C k50 w A0 l0.length l0) (hc0 : l0.length ≤ c0) (hr1 : Kd.C k50 w A1 l1.length l1) (hc1 : l1.length ≤ c1) (h : aX.f k l0 l1 = some r) :
  Calls Tryz.prog 33 #[.slice A0 l0.length c0, .slice A1 l1.length c1] w fun e w' => e = .returned (.bool r) ∧ Below w.heap.size w w' := by
 have hu50 := Tryz.underlying50; have HR0 := am_ hr0; have HC0 := am_ hc0; clear hr0 hc0; have HR1 := am_ hr1; have HC1 := am_ hc1; clear hr1 hc1; have HB := am_ (Below.refl w.heap.size w); have H := h; clear h; unfold aX.f at H
 by_cases c3 : (l0.length : Int) = (l1.length : Int)
 ·rw [if_pos c3] at H; have c3b0 := cQ c3; have c3b1 := cO c3; have c3b2 : (l0.length == l1.length) = true := by first | simpa using c3 | (simp at c3 ⊢; omega)
  clear c3; have H' := am_ H; clear H; go_enter Tryz.func33, Tryz.ntmps33
  go_wp2; go_loopg [5] k (fun kq v5 w' => ∃ (x5_1 : Int), v5 = .int .i64 x5_1 ∧ aa (aX.l0 kq l0 l1 x5_1 = some r) ∧ aa (kq ≤ k) ∧ aa (Below w.heap.size w w'))
  case atStart => exact ⟨(0), u1_, H', ⟨Nat.le_refl _⟩, ⟨bw_ HB⟩⟩
  case round =>
   clear H'; try clear c1
   try clear c3
   try clear c3b0
   try clear c3b1
   try clear c3b2
   obtain ⟨x5_1, rfl, HA, HK1, HB⟩ := hrel; cases gk with
   | zero => exact absurd HA.out (by simp [aX.l0])
   | succ k1 =>
    have H := HA.out; clear HA; simp only [aX.l0] at H; by_cases c4 : x5_1 < (l0.length : Int)
    ·rw [if_pos c4] at H; have c4b0 := decide_eq_true c4; clear c4; obtain ⟨c5b0, H⟩ := gd_ H; obtain ⟨c6b0, H⟩ := gd_ H; obtain ⟨t546, A7, H⟩ := bi_ H; have HC_ := am_ H; clear H; try go_wp2
     replace HB := am_ (aQ HB.out); obtain ⟨ad544, A544_1, c544_1, e544, hx544_0, hx544_1, hl544_1, hi544_1⟩ := iE HR0.out x5_1 od_ od_; have hw544_1 := hx544_1; have hw544_0 := hx544_0; cases e544; replace hx544_0 := cb_ HB hx544_0; replace hx544_1 := cb_ HB hx544_1; have HR544_1 := am_ hi544_1; have HC544_1 := am_ hl544_1; clear hi544_1 hl544_1; obtain ⟨p544, q544⟩ := pt_ x5_1 l0.length; obtain ⟨ad545, A545_1, c545_1, e545, hx545_0, hx545_1, hl545_1, hi545_1⟩ := iE HR1.out x5_1 od_ od_; have hw545_1 := hx545_1; have hw545_0 := hx545_0; cases e545; replace hx545_0 := cb_ HB hx545_0; replace hx545_1 := cb_ HB hx545_1; have HR545_1 := am_ hi545_1; have HC545_1 := am_ hl545_1; clear hi545_1 hl545_1; obtain ⟨p545, q545⟩ := pt_ x5_1 l1.length; refine dk (n := 10) (S := fun w' => w'.cell? (ad544.add ((x5_1).toNat * 2)) = some (.int .i64 ((bb l0 x5_1).f0)) ∧ w'.cell? ⟨(ad544.add ((x5_1).toNat * 2)).block, (ad544.add ((x5_1).toNat * 2)).off + 1, none⟩ = some (.slice A544_1 ((bb l0 x5_1).f1).length c544_1) ∧ w'.cell? (ad545.add ((x5_1).toNat * 2)) = some (.int .i64 ((bb l1 x5_1).f0)) ∧ w'.cell? ⟨(ad545.add ((x5_1).toNat * 2)).block, (ad545.add ((x5_1).toNat * 2)).off + 1, none⟩ = some (.slice A545_1 ((bb l1 x5_1).f1).length c545_1)) (ds := []) (bm_ 10 0) b9 rfl rfl ⟨(cc_ HB hw544_0), (cc_ HB hw544_1), (cc_ HB hw545_0), (cc_ HB hw545_1)⟩ (fun hHeld => ?_); refine bX aX.tab6 aX.bits6 (fun HT_ HW_ => ?_); generalize wr.drew = w11 at HB HR544_1 HR545_1 hx544_0 hx544_1 hx545_0 hx545_1 hHeld ⊢; refine pv_ 0 17 ?_; refine pv_ 1 18 ?_; refine pv_ 2 19 ?_; refine pv_ 4 21 ?_; refine pv_ 5 22 ?_; refine pv_ 6 23 ?_; refine tv_ 3 20 ?_; refine tv_ 7 24 ?_; refine ov_ 8 25 (fun K hK => ?_); refine oB_ Tryz.func80 (eh.calls k1 ((bb l0 x5_1).f0) _ _ ((bb l0 x5_1).f1) ((bb l1 x5_1).f0) _ _ ((bb l1 x5_1).f1) t546 _ (kc_ HR544_1 HB) HC544_1.out (kc_ HR545_1 HB) HC545_1.out A7.out) ?_; intro w12 hb; replace HB := bs_ HB hb; (try clear hb)
     refine hK.out _ _ ⟨(cc_ HB hw544_0), (cc_ HB hw544_1), (cc_ HB hw545_0), (cc_ HB hw545_1)⟩ (fun hHeld => ?_); clear hK K; refine nm_ ?_; refine pv_ 9 26 ?_; refine dn_ HT_ ?_; have H := HC_.out; clear HC_; cases t546
     ·replace H := hf_ H; obtain rfl := si_ H; try go_wp2
      go_ret
      exact ⟨u0_, bw_ HB⟩
     ·replace H := ht_ H; have H' := am_ H; clear H; try go_wp2
      go_roundg k1
      case measure => have := HK1.out; omega
      case rel => exact ⟨(wrap64 (x5_1 + 1)), u1_, H', ⟨dc⟩, ⟨bw_ HB⟩⟩
    ·rw [if_neg c4] at H; have c4b0 := decide_eq_false c4; clear c4; obtain rfl := si_ H; go_wp2; go_ret
     exact ⟨u0_, bw_ HB⟩
 ·rw [if_neg c3] at H; have c3b0 := cT c3; have c3b1 := cV c3; have c3b2 : (l0.length == l1.length) = false := by first | simpa using c3 | (simp at c3 ⊢; omega)
  obtain rfl := si_ H; go_enter Tryz.func33, Tryz.ntmps33
  go_wp2; go_ret
  exact ⟨u0_, bw_ HB⟩
def dM.f (k : Nat) (a0_0 : ByteArray) (a0_1 : ByteArray) (l0_2 : List (S50)) (a1_0 : ByteArray) (a1_1 : ByteArray) (l1_2 : List (S50)) : Option (Bool) := if a0_0.toList = a1_0.toList then (if a0_1.toList = a1_1.toList then ((aX.f k l0_2 l1_2).bind fun t549 => (if t549 = true then (some true) else (some false))) else (some false)) else (some false)
theorem dM.calls (k : Nat) (a0_0 : ByteArray) (a0_1 : ByteArray) (A0_2 : Option Addr) (c0_2 : Nat) (l0_2 : List (S50)) (a1_0 : ByteArray) (a1_1 : ByteArray) (A1_2 : Option Addr) (c1_2 : Nat) (l1_2 : List (S50)) (r : Bool) (w : World) (hr0_2 : Kd.C k50 w A0_2 l0_2.length l0_2) (hc0_2 : l0_2.length ≤ c0_2) (hr1_2 : Kd.C k50 w A1_2 l1_2.length l1_2) (hc1_2 : l1_2.length ≤ c1_2) (h : dM.f k a0_0 a0_1 l0_2 a1_0 a1_1 l1_2 = some r) :
  Calls Tryz.prog 123 #[.agg #[.string a0_0, .string a0_1, .slice A0_2 l0_2.length c0_2], .agg #[.string a1_0, .string a1_1, .slice A1_2 l1_2.length c1_2]] w fun e w' => e = .returned (.bool r) ∧ Below w.heap.size w w' := by
 have hu76 := Tryz.underlying76; have HR0_2 := am_ hr0_2; have HC0_2 := am_ hc0_2; clear hr0_2 hc0_2; have HR1_2 := am_ hr1_2; have HC1_2 := am_ hc1_2; clear hr1_2 hc1_2; have HB := am_ (Below.refl w.heap.size w); have H := h; clear h; unfold dM.f at H
 by_cases c3 : a0_0.toList = a1_0.toList
 ·rw [if_pos c3] at H; have c3b0 := cQ c3; have c3b1 := cO c3; clear c3; by_cases c4 : a0_1.toList = a1_1.toList
  ·rw [if_pos c4] at H; have c4b0 := cQ c4; have c4b1 := cO c4; clear c4; obtain ⟨t549, A5, H⟩ := bi_ H; cases t549
   ·replace H := hf_ H; obtain rfl := si_ H; go_enter Tryz.func123, Tryz.ntmps123
    go_wp2_with (first | ((with_reducible refine gt_ 2 ?_); refine bx_ 2 #[.string a0_0, .string a0_1, .slice A0_2 l0_2.length c0_2] 76 ?_; intro gb547 hg w13 hbox hb; have BK547 := am_ (hbox); have GE547 := gw_ HB hg; replace HB := bs_ HB hb; clear hb hbox hg) | ((with_reducible refine gt_ 3 ?_); refine bx_ 3 #[.string a1_0, .string a1_1, .slice A1_2 l1_2.length c1_2] 76 ?_; intro gb548 hg w14 hbox hb; have BK548 := am_ (hbox); have GE548 := gw_ HB hg; replace HB := bs_ HB hb; have NB547_548 := nl_ BK547 hg; have NB548_547 := ng_ BK547 hg; replace BK547 := bb_ BK547 hb; clear hb hbox hg; have hnb15 := NB547_548.out; have hnc15 := NB548_547.out; obtain ⟨hcz16_0, hcz16_1, hcz16_2, hfz16_0, hfz16_1, hfz16_2⟩ := bO BK547.out; obtain ⟨hcz17_0, hcz17_1, hcz17_2, hfz17_0, hfz17_1, hfz17_2⟩ := bO BK548.out) | ((with_reducible refine gt_ 19 ?_); refine gB_ 19 Tryz.func33 (aX.calls k _ _ l0_2 _ _ l1_2 false _ (kc_ HR0_2 HB) HC0_2.out (kc_ HR1_2 HB) HC1_2.out A5.out) ?_; intro w18 hb; replace HB := bs_ HB hb; (try clear hb)))
    go_ret
    exact ⟨u0_, bw_ HB⟩
   ·replace H := ht_ H; obtain rfl := si_ H; go_enter Tryz.func123, Tryz.ntmps123
    go_wp2_with (first | ((with_reducible refine gt_ 2 ?_); refine bx_ 2 #[.string a0_0, .string a0_1, .slice A0_2 l0_2.length c0_2] 76 ?_; intro gb547 hg w7 hbox hb; have BK547 := am_ (hbox); have GE547 := gw_ HB hg; replace HB := bs_ HB hb; clear hb hbox hg) | ((with_reducible refine gt_ 3 ?_); refine bx_ 3 #[.string a1_0, .string a1_1, .slice A1_2 l1_2.length c1_2] 76 ?_; intro gb548 hg w8 hbox hb; have BK548 := am_ (hbox); have GE548 := gw_ HB hg; replace HB := bs_ HB hb; have NB547_548 := nl_ BK547 hg; have NB548_547 := ng_ BK547 hg; replace BK547 := bb_ BK547 hb; clear hb hbox hg; have hnb9 := NB547_548.out; have hnc9 := NB548_547.out; obtain ⟨hcz10_0, hcz10_1, hcz10_2, hfz10_0, hfz10_1, hfz10_2⟩ := bO BK547.out; obtain ⟨hcz11_0, hcz11_1, hcz11_2, hfz11_0, hfz11_1, hfz11_2⟩ := bO BK548.out) | ((with_reducible refine gt_ 19 ?_); refine gB_ 19 Tryz.func33 (aX.calls k _ _ l0_2 _ _ l1_2 true _ (kc_ HR0_2 HB) HC0_2.out (kc_ HR1_2 HB) HC1_2.out A5.out) ?_; intro w12 hb; replace HB := bs_ HB hb; (try clear hb)))
    go_ret
    exact ⟨u0_, bw_ HB⟩
  ·rw [if_neg c4] at H; have c4b0 := cT c4; have c4b1 := cV c4; obtain rfl := si_ H; go_enter Tryz.func123, Tryz.ntmps123
   go_wp2_with (first | ((with_reducible refine gt_ 2 ?_); refine bx_ 2 #[.string a0_0, .string a0_1, .slice A0_2 l0_2.length c0_2] 76 ?_; intro gb547 hg w19 hbox hb; have BK547 := am_ (hbox); have GE547 := gw_ HB hg; replace HB := bs_ HB hb; clear hb hbox hg) | ((with_reducible refine gt_ 3 ?_); refine bx_ 3 #[.string a1_0, .string a1_1, .slice A1_2 l1_2.length c1_2] 76 ?_; intro gb548 hg w20 hbox hb; have BK548 := am_ (hbox); have GE548 := gw_ HB hg; replace HB := bs_ HB hb; have NB547_548 := nl_ BK547 hg; have NB548_547 := ng_ BK547 hg; replace BK547 := bb_ BK547 hb; clear hb hbox hg; have hnb21 := NB547_548.out; have hnc21 := NB548_547.out; obtain ⟨hcz22_0, hcz22_1, hcz22_2, hfz22_0, hfz22_1, hfz22_2⟩ := bO BK547.out; obtain ⟨hcz23_0, hcz23_1, hcz23_2, hfz23_0, hfz23_1, hfz23_2⟩ := bO BK548.out))
   go_ret
   exact ⟨u0_, bw_ HB⟩
 ·rw [if_neg c3] at H; have c3b0 := cT c3; have c3b1 := cV c3; obtain rfl := si_ H; go_enter Tryz.func123, Tryz.ntmps123
  go_wp2_with (first | ((with_reducible refine gt_ 2 ?_); refine bx_ 2 #[.string a0_0, .string a0_1, .slice A0_2 l0_2.length c0_2] 76 ?_; intro gb547 hg w24 hbox hb; have BK547 := am_ (hbox); have GE547 := gw_ HB hg; replace HB := bs_ HB hb; clear hb hbox hg) | ((with_reducible refine gt_ 3 ?_); refine bx_ 3 #[.string a1_0, .string a1_1, .slice A1_2 l1_2.length c1_2] 76 ?_; intro gb548 hg w25 hbox hb; have BK548 := am_ (hbox); have GE548 := gw_ HB hg; replace HB := bs_ HB hb; have NB547_548 := nl_ BK547 hg; have NB548_547 := ng_ BK547 hg; replace BK547 := bb_ BK547 hb; clear hb hbox hg; have hnb26 := NB547_548.out; have hnc26 := NB548_547.out; obtain ⟨hcz27_0, hcz27_1, hcz27_2, hfz27_0, hfz27_1, hfz27_2⟩ := bO BK547.out; obtain ⟨hcz28_0, hcz28_1, hcz28_2, hfz28_0, hfz28_1, hfz28_2⟩ := bO BK548.out))
  go_ret
  exact ⟨u0_, bw_ HB⟩
def aD.l0 : Nat → List (S76) → List (S76) → Int → Option (Bool)
 | 0, _, _, _ => none
 | k + 1, x0, x1, x5 => if x5 < (x0.length : Int) then (if 0 ≤ x5 then (if x5 < (x1.length : Int) then ((dM.f k ((aj x0 x5).f0) ((aj x0 x5).f1) ((aj x0 x5).f2) ((aj x1 x5).f0) ((aj x1 x5).f1) ((aj x1 x5).f2)).bind fun t552 => (if t552 = true then (aD.l0 k x0 x1 (wrap64 (x5 + 1))) else (some false))) else (none)) else (none)) else (some true)
def aD.f (k : Nat) (l0 : List (S76)) (l1 : List (S76)) : Option (Bool) := if (l0.length : Int) = (l1.length : Int) then (aD.l0 k l0 l1 0) else (some false)
def aD.T6 : Bool × List (List Nat × List Nat) := (true, [([], []), ([], []), ([0, 1], [0, 1]), ([2], [2]), ([], []), ([], []), ([4, 5], [4, 5]), ([6], [6]), ([3, 7], [3, 7]), ([8], [8])])
def aD.B6 : List Nat := [0, 0, 3, 7, 0, 0, 48, 112, 255, 511]
theorem aD.tab6 : dC .any (f4 Tryz.f72 6) = aD.T6 := by kernel_rfl
theorem aD.bits6 : dn aD.T6.2 aD.B6 = true := by kernel_rfl
theorem aD.calls (k : Nat) (A0 : Option Addr) (c0 : Nat) (l0 : List (S76)) (A1 : Option Addr) (c1 : Nat) (l1 : List (S76)) (r : Bool) (w : World) (hr0 : Kd.C k76 w A0 l0.length l0) (hc0 : l0.length ≤ c0) (hr1 : Kd.C k76 w A1 l1.length l1) (hc1 : l1.length ≤ c1) (h : aD.f k l0 l1 = some r) :
  Calls Tryz.prog 72 #[.slice A0 l0.length c0, .slice A1 l1.length c1] w fun e w' => e = .returned (.bool r) ∧ Below w.heap.size w w' := by
 have hu76 := Tryz.underlying76; have HR0 := am_ hr0; have HC0 := am_ hc0; clear hr0 hc0; have HR1 := am_ hr1; have HC1 := am_ hc1; clear hr1 hc1; have HB := am_ (Below.refl w.heap.size w); have H := h; clear h; unfold aD.f at H
 by_cases c3 : (l0.length : Int) = (l1.length : Int)
 ·rw [if_pos c3] at H; have c3b0 := cQ c3; have c3b1 := cO c3; have c3b2 : (l0.length == l1.length) = true := by first | simpa using c3 | (simp at c3 ⊢; omega)
  clear c3; have H' := am_ H; clear H; go_enter Tryz.func72, Tryz.ntmps72
  go_wp2; go_loopg [5] k (fun kq v5 w' => ∃ (x5_1 : Int), v5 = .int .i64 x5_1 ∧ aa (aD.l0 kq l0 l1 x5_1 = some r) ∧ aa (kq ≤ k) ∧ aa (Below w.heap.size w w'))
  case atStart => exact ⟨(0), u1_, H', ⟨Nat.le_refl _⟩, ⟨bw_ HB⟩⟩
  case round =>
   clear H'; try clear c1
   try clear c3
   try clear c3b0
   try clear c3b1
   try clear c3b2
   obtain ⟨x5_1, rfl, HA, HK1, HB⟩ := hrel; cases gk with
   | zero => exact absurd HA.out (by simp [aD.l0])
   | succ k1 =>
    have H := HA.out; clear HA; simp only [aD.l0] at H; by_cases c4 : x5_1 < (l0.length : Int)
    ·rw [if_pos c4] at H; have c4b0 := decide_eq_true c4; clear c4; obtain ⟨c5b0, H⟩ := gd_ H; obtain ⟨c6b0, H⟩ := gd_ H; obtain ⟨t552, A7, H⟩ := bi_ H; have HC_ := am_ H; clear H; try go_wp2
     replace HB := am_ (aQ HB.out); obtain ⟨ad550, A550_2, c550_2, e550, hx550_0, hx550_1, hx550_2, hl550_2, hi550_2⟩ := em HR0.out x5_1 od_ od_; have hw550_2 := hx550_2; have hw550_1 := hx550_1; have hw550_0 := hx550_0; cases e550; replace hx550_0 := cb_ HB hx550_0; replace hx550_1 := cb_ HB hx550_1; replace hx550_2 := cb_ HB hx550_2; have HR550_2 := am_ hi550_2; have HC550_2 := am_ hl550_2; clear hi550_2 hl550_2; obtain ⟨p550, q550⟩ := pt_ x5_1 l0.length; obtain ⟨ad551, A551_2, c551_2, e551, hx551_0, hx551_1, hx551_2, hl551_2, hi551_2⟩ := em HR1.out x5_1 od_ od_; have hw551_2 := hx551_2; have hw551_1 := hx551_1; have hw551_0 := hx551_0; cases e551; replace hx551_0 := cb_ HB hx551_0; replace hx551_1 := cb_ HB hx551_1; replace hx551_2 := cb_ HB hx551_2; have HR551_2 := am_ hi551_2; have HC551_2 := am_ hl551_2; clear hi551_2 hl551_2; obtain ⟨p551, q551⟩ := pt_ x5_1 l1.length; refine dk (n := 10) (S := fun w' => w'.cell? (ad550.add ((x5_1).toNat * 3)) = some (.string ((aj l0 x5_1).f0)) ∧ w'.cell? ⟨(ad550.add ((x5_1).toNat * 3)).block, (ad550.add ((x5_1).toNat * 3)).off + 1, none⟩ = some (.string ((aj l0 x5_1).f1)) ∧ w'.cell? ⟨(ad550.add ((x5_1).toNat * 3)).block, (ad550.add ((x5_1).toNat * 3)).off + 2, none⟩ = some (.slice A550_2 ((aj l0 x5_1).f2).length c550_2) ∧ w'.cell? (ad551.add ((x5_1).toNat * 3)) = some (.string ((aj l1 x5_1).f0)) ∧ w'.cell? ⟨(ad551.add ((x5_1).toNat * 3)).block, (ad551.add ((x5_1).toNat * 3)).off + 1, none⟩ = some (.string ((aj l1 x5_1).f1)) ∧ w'.cell? ⟨(ad551.add ((x5_1).toNat * 3)).block, (ad551.add ((x5_1).toNat * 3)).off + 2, none⟩ = some (.slice A551_2 ((aj l1 x5_1).f2).length c551_2)) (ds := []) (bm_ 10 0) b9 rfl rfl ⟨(cc_ HB hw550_0), (cc_ HB hw550_1), (cc_ HB hw550_2), (cc_ HB hw551_0), (cc_ HB hw551_1), (cc_ HB hw551_2)⟩ (fun hHeld => ?_); refine bX aD.tab6 aD.bits6 (fun HT_ HW_ => ?_); generalize wr.drew = w11 at HB HR550_2 HR551_2 hx550_0 hx550_1 hx550_2 hx551_0 hx551_1 hx551_2 hHeld ⊢; refine pv_ 0 17 ?_; refine pv_ 1 18 ?_; refine pv_ 2 19 ?_; refine pv_ 4 21 ?_; refine pv_ 5 22 ?_; refine pv_ 6 23 ?_; refine tv_ 3 20 ?_; refine tv_ 7 24 ?_; refine ov_ 8 25 (fun K hK => ?_); refine oB_ Tryz.func123 (dM.calls k1 ((aj l0 x5_1).f0) ((aj l0 x5_1).f1) _ _ ((aj l0 x5_1).f2) ((aj l1 x5_1).f0) ((aj l1 x5_1).f1) _ _ ((aj l1 x5_1).f2) t552 _ (kc_ HR550_2 HB) HC550_2.out (kc_ HR551_2 HB) HC551_2.out A7.out) ?_; intro w12 hb; replace HB := bs_ HB hb; (try clear hb)
     refine hK.out _ _ ⟨(cc_ HB hw550_0), (cc_ HB hw550_1), (cc_ HB hw550_2), (cc_ HB hw551_0), (cc_ HB hw551_1), (cc_ HB hw551_2)⟩ (fun hHeld => ?_); clear hK K; refine nm_ ?_; refine pv_ 9 26 ?_; refine dn_ HT_ ?_; have H := HC_.out; clear HC_; cases t552
     ·replace H := hf_ H; obtain rfl := si_ H; try go_wp2
      go_ret
      exact ⟨u0_, bw_ HB⟩
     ·replace H := ht_ H; have H' := am_ H; clear H; try go_wp2
      go_roundg k1
      case measure => have := HK1.out; omega
      case rel => exact ⟨(wrap64 (x5_1 + 1)), u1_, H', ⟨dc⟩, ⟨bw_ HB⟩⟩
    ·rw [if_neg c4] at H; have c4b0 := decide_eq_false c4; clear c4; obtain rfl := si_ H; go_wp2; go_ret
     exact ⟨u0_, bw_ HB⟩
 ·rw [if_neg c3] at H; have c3b0 := cT c3; have c3b1 := cV c3; have c3b2 : (l0.length == l1.length) = false := by first | simpa using c3 | (simp at c3 ⊢; omega)
  obtain rfl := si_ H; go_enter Tryz.func72, Tryz.ntmps72
  go_wp2; go_ret
  exact ⟨u0_, bw_ HB⟩
def dL.f (k : Nat) (l0_0 : List (S92)) (l0_1 : List (S46)) (l0_2 : List (S76)) (a0_3 : Int) (l1_0 : List (S92)) (l1_1 : List (S46)) (l1_2 : List (S76)) (a1_3 : Int) : Option (Bool) := (aA.f k l0_0 l1_0).bind fun t555 => (if t555 = true then ((a7.f k l0_1 l1_1).bind fun t556 => (if t556 = true then ((aD.f k l0_2 l1_2).bind fun t557 => (if t557 = true then (if a0_3 = a1_3 then (some true) else (some false)) else (some false))) else (some false))) else (some false))
theorem dL.calls (k : Nat) (A0_0 : Option Addr) (c0_0 : Nat) (l0_0 : List (S92)) (A0_1 : Option Addr) (c0_1 : Nat) (l0_1 : List (S46)) (A0_2 : Option Addr) (c0_2 : Nat) (l0_2 : List (S76)) (a0_3 : Int) (A1_0 : Option Addr) (c1_0 : Nat) (l1_0 : List (S92)) (A1_1 : Option Addr) (c1_1 : Nat) (l1_1 : List (S46)) (A1_2 : Option Addr) (c1_2 : Nat) (l1_2 : List (S76)) (a1_3 : Int) (r : Bool) (w : World) (hr0_0 : Kd.C k92 w A0_0 l0_0.length l0_0) (hc0_0 : l0_0.length ≤ c0_0) (hr0_1 : Kd.C k46 w A0_1 l0_1.length l0_1) (hc0_1 : l0_1.length ≤ c0_1) (hr0_2 : Kd.C k76 w A0_2 l0_2.length l0_2) (hc0_2 : l0_2.length ≤ c0_2) (hr1_0 : Kd.C k92 w A1_0 l1_0.length l1_0) (hc1_0 : l1_0.length ≤ c1_0) (hr1_1 : Kd.C k46 w A1_1 l1_1.length l1_1) (hc1_1 : l1_1.length ≤ c1_1) (hr1_2 : Kd.C k76 w A1_2 l1_2.length l1_2) (hc1_2 : l1_2.length ≤ c1_2) (h : dL.f k l0_0 l0_1 l0_2 a0_3 l1_0 l1_1 l1_2 a1_3 = some r) :
  Calls Tryz.prog 26 #[.agg #[.slice A0_0 l0_0.length c0_0, .slice A0_1 l0_1.length c0_1, .slice A0_2 l0_2.length c0_2, .int .i64 a0_3], .agg #[.slice A1_0 l1_0.length c1_0, .slice A1_1 l1_1.length c1_1, .slice A1_2 l1_2.length c1_2, .int .i64 a1_3]] w fun e w' => e = .returned (.bool r) ∧ Below w.heap.size w w' := by
 have hu27 := Tryz.underlying27; have HR0_0 := am_ hr0_0; have HC0_0 := am_ hc0_0; clear hr0_0 hc0_0; have HR0_1 := am_ hr0_1; have HC0_1 := am_ hc0_1; clear hr0_1 hc0_1; have HR0_2 := am_ hr0_2; have HC0_2 := am_ hc0_2; clear hr0_2 hc0_2; have HR1_0 := am_ hr1_0; have HC1_0 := am_ hc1_0; clear hr1_0 hc1_0; have HR1_1 := am_ hr1_1; have HC1_1 := am_ hc1_1; clear hr1_1 hc1_1; have HR1_2 := am_ hr1_2; have HC1_2 := am_ hc1_2; clear hr1_2 hc1_2; have HB := am_ (Below.refl w.heap.size w); have H := h; clear h; unfold dL.f at H
 obtain ⟨t555, A3, H⟩ := bi_ H; cases t555
 ·replace H := hf_ H; obtain rfl := si_ H; go_enter Tryz.func26, Tryz.ntmps26
  go_wp2_with (first | ((with_reducible refine gt_ 2 ?_); refine bx_ 2 #[.slice A0_0 l0_0.length c0_0, .slice A0_1 l0_1.length c0_1, .slice A0_2 l0_2.length c0_2, .int .i64 a0_3] 27 ?_; intro gb553 hg w59 hbox hb; have BK553 := am_ (hbox); have GE553 := gw_ HB hg; replace HB := bs_ HB hb; clear hb hbox hg) | ((with_reducible refine gt_ 3 ?_); refine bx_ 3 #[.slice A1_0 l1_0.length c1_0, .slice A1_1 l1_1.length c1_1, .slice A1_2 l1_2.length c1_2, .int .i64 a1_3] 27 ?_; intro gb554 hg w60 hbox hb; have BK554 := am_ (hbox); have GE554 := gw_ HB hg; replace HB := bs_ HB hb; have NB553_554 := nl_ BK553 hg; have NB554_553 := ng_ BK553 hg; replace BK553 := bb_ BK553 hb; clear hb hbox hg; have hnb61 := NB553_554.out; have hnc61 := NB554_553.out; obtain ⟨hcz62_0, hcz62_1, hcz62_2, hcz62_3, hfz62_0, hfz62_1, hfz62_2, hfz62_3⟩ := cu BK553.out; obtain ⟨hcz63_0, hcz63_1, hcz63_2, hcz63_3, hfz63_0, hfz63_1, hfz63_2, hfz63_3⟩ := cu BK554.out) | ((with_reducible refine gt_ 9 ?_); refine gB_ 9 Tryz.func70 (aA.calls k _ _ l0_0 _ _ l1_0 false _ (kc_ HR0_0 HB) HC0_0.out (kc_ HR1_0 HB) HC1_0.out A3.out) ?_; intro w64 hb; replace HB := bs_ HB hb; (try clear hb)))
  go_ret
  exact ⟨u0_, bw_ HB⟩
 ·replace H := ht_ H; obtain ⟨t556, A5, H⟩ := bi_ H; cases t556
  ·replace H := hf_ H; obtain rfl := si_ H; go_enter Tryz.func26, Tryz.ntmps26
   go_wp2_with (first | ((with_reducible refine gt_ 2 ?_); refine bx_ 2 #[.slice A0_0 l0_0.length c0_0, .slice A0_1 l0_1.length c0_1, .slice A0_2 l0_2.length c0_2, .int .i64 a0_3] 27 ?_; intro gb553 hg w50 hbox hb; have BK553 := am_ (hbox); have GE553 := gw_ HB hg; replace HB := bs_ HB hb; clear hb hbox hg) | ((with_reducible refine gt_ 3 ?_); refine bx_ 3 #[.slice A1_0 l1_0.length c1_0, .slice A1_1 l1_1.length c1_1, .slice A1_2 l1_2.length c1_2, .int .i64 a1_3] 27 ?_; intro gb554 hg w51 hbox hb; have BK554 := am_ (hbox); have GE554 := gw_ HB hg; replace HB := bs_ HB hb; have NB553_554 := nl_ BK553 hg; have NB554_553 := ng_ BK553 hg; replace BK553 := bb_ BK553 hb; clear hb hbox hg; have hnb52 := NB553_554.out; have hnc52 := NB554_553.out; obtain ⟨hcz53_0, hcz53_1, hcz53_2, hcz53_3, hfz53_0, hfz53_1, hfz53_2, hfz53_3⟩ := cu BK553.out; obtain ⟨hcz54_0, hcz54_1, hcz54_2, hcz54_3, hfz54_0, hfz54_1, hfz54_2, hfz54_3⟩ := cu BK554.out) | ((with_reducible refine gt_ 9 ?_); refine gB_ 9 Tryz.func70 (aA.calls k _ _ l0_0 _ _ l1_0 true _ (kc_ HR0_0 HB) HC0_0.out (kc_ HR1_0 HB) HC1_0.out A3.out) ?_; intro w55 hb; replace BK553 := bb_ BK553 hb; replace BK554 := bb_ BK554 hb; replace HB := bs_ HB hb; (try clear hb); obtain ⟨hcz56_0, hcz56_1, hcz56_2, hcz56_3, hfz56_0, hfz56_1, hfz56_2, hfz56_3⟩ := cu BK553.out; obtain ⟨hcz57_0, hcz57_1, hcz57_2, hcz57_3, hfz57_0, hfz57_1, hfz57_2, hfz57_3⟩ := cu BK554.out) | ((with_reducible refine gt_ 15 ?_); refine gB_ 15 Tryz.func71 (a7.calls k _ _ l0_1 _ _ l1_1 false _ (kc_ HR0_1 HB) HC0_1.out (kc_ HR1_1 HB) HC1_1.out A5.out) ?_; intro w58 hb; replace HB := bs_ HB hb; (try clear hb)))
   go_ret
   exact ⟨u0_, bw_ HB⟩
  ·replace H := ht_ H; obtain ⟨t557, A7, H⟩ := bi_ H; cases t557
   ·replace H := hf_ H; obtain rfl := si_ H; go_enter Tryz.func26, Tryz.ntmps26
    go_wp2_with (first | ((with_reducible refine gt_ 2 ?_); refine bx_ 2 #[.slice A0_0 l0_0.length c0_0, .slice A0_1 l0_1.length c0_1, .slice A0_2 l0_2.length c0_2, .int .i64 a0_3] 27 ?_; intro gb553 hg w38 hbox hb; have BK553 := am_ (hbox); have GE553 := gw_ HB hg; replace HB := bs_ HB hb; clear hb hbox hg) | ((with_reducible refine gt_ 3 ?_); refine bx_ 3 #[.slice A1_0 l1_0.length c1_0, .slice A1_1 l1_1.length c1_1, .slice A1_2 l1_2.length c1_2, .int .i64 a1_3] 27 ?_; intro gb554 hg w39 hbox hb; have BK554 := am_ (hbox); have GE554 := gw_ HB hg; replace HB := bs_ HB hb; have NB553_554 := nl_ BK553 hg; have NB554_553 := ng_ BK553 hg; replace BK553 := bb_ BK553 hb; clear hb hbox hg; have hnb40 := NB553_554.out; have hnc40 := NB554_553.out; obtain ⟨hcz41_0, hcz41_1, hcz41_2, hcz41_3, hfz41_0, hfz41_1, hfz41_2, hfz41_3⟩ := cu BK553.out; obtain ⟨hcz42_0, hcz42_1, hcz42_2, hcz42_3, hfz42_0, hfz42_1, hfz42_2, hfz42_3⟩ := cu BK554.out) | ((with_reducible refine gt_ 9 ?_); refine gB_ 9 Tryz.func70 (aA.calls k _ _ l0_0 _ _ l1_0 true _ (kc_ HR0_0 HB) HC0_0.out (kc_ HR1_0 HB) HC1_0.out A3.out) ?_; intro w43 hb; replace BK553 := bb_ BK553 hb; replace BK554 := bb_ BK554 hb; replace HB := bs_ HB hb; (try clear hb); obtain ⟨hcz44_0, hcz44_1, hcz44_2, hcz44_3, hfz44_0, hfz44_1, hfz44_2, hfz44_3⟩ := cu BK553.out; obtain ⟨hcz45_0, hcz45_1, hcz45_2, hcz45_3, hfz45_0, hfz45_1, hfz45_2, hfz45_3⟩ := cu BK554.out) | ((with_reducible refine gt_ 15 ?_); refine gB_ 15 Tryz.func71 (a7.calls k _ _ l0_1 _ _ l1_1 true _ (kc_ HR0_1 HB) HC0_1.out (kc_ HR1_1 HB) HC1_1.out A5.out) ?_; intro w46 hb; replace BK553 := bb_ BK553 hb; replace BK554 := bb_ BK554 hb; replace HB := bs_ HB hb; (try clear hb); obtain ⟨hcz47_0, hcz47_1, hcz47_2, hcz47_3, hfz47_0, hfz47_1, hfz47_2, hfz47_3⟩ := cu BK553.out; obtain ⟨hcz48_0, hcz48_1, hcz48_2, hcz48_3, hfz48_0, hfz48_1, hfz48_2, hfz48_3⟩ := cu BK554.out) | ((with_reducible refine gt_ 21 ?_); refine gB_ 21 Tryz.func72 (aD.calls k _ _ l0_2 _ _ l1_2 false _ (kc_ HR0_2 HB) HC0_2.out (kc_ HR1_2 HB) HC1_2.out A7.out) ?_; intro w49 hb; replace HB := bs_ HB hb; (try clear hb)))
    go_ret
    exact ⟨u0_, bw_ HB⟩
   ·replace H := ht_ H; by_cases c9 : a0_3 = a1_3
    ·rw [if_pos c9] at H; have c9b0 := cQ c9; have c9b1 := cO c9; clear c9; obtain rfl := si_ H; go_enter Tryz.func26, Tryz.ntmps26
     go_wp2_with (first | ((with_reducible refine gt_ 2 ?_); refine bx_ 2 #[.slice A0_0 l0_0.length c0_0, .slice A0_1 l0_1.length c0_1, .slice A0_2 l0_2.length c0_2, .int .i64 a0_3] 27 ?_; intro gb553 hg w10 hbox hb; have BK553 := am_ (hbox); have GE553 := gw_ HB hg; replace HB := bs_ HB hb; clear hb hbox hg) | ((with_reducible refine gt_ 3 ?_); refine bx_ 3 #[.slice A1_0 l1_0.length c1_0, .slice A1_1 l1_1.length c1_1, .slice A1_2 l1_2.length c1_2, .int .i64 a1_3] 27 ?_; intro gb554 hg w11 hbox hb; have BK554 := am_ (hbox); have GE554 := gw_ HB hg; replace HB := bs_ HB hb; have NB553_554 := nl_ BK553 hg; have NB554_553 := ng_ BK553 hg; replace BK553 := bb_ BK553 hb; clear hb hbox hg; have hnb12 := NB553_554.out; have hnc12 := NB554_553.out; obtain ⟨hcz13_0, hcz13_1, hcz13_2, hcz13_3, hfz13_0, hfz13_1, hfz13_2, hfz13_3⟩ := cu BK553.out; obtain ⟨hcz14_0, hcz14_1, hcz14_2, hcz14_3, hfz14_0, hfz14_1, hfz14_2, hfz14_3⟩ := cu BK554.out) | ((with_reducible refine gt_ 9 ?_); refine gB_ 9 Tryz.func70 (aA.calls k _ _ l0_0 _ _ l1_0 true _ (kc_ HR0_0 HB) HC0_0.out (kc_ HR1_0 HB) HC1_0.out A3.out) ?_; intro w15 hb; replace BK553 := bb_ BK553 hb; replace BK554 := bb_ BK554 hb; replace HB := bs_ HB hb; (try clear hb); obtain ⟨hcz16_0, hcz16_1, hcz16_2, hcz16_3, hfz16_0, hfz16_1, hfz16_2, hfz16_3⟩ := cu BK553.out; obtain ⟨hcz17_0, hcz17_1, hcz17_2, hcz17_3, hfz17_0, hfz17_1, hfz17_2, hfz17_3⟩ := cu BK554.out) | ((with_reducible refine gt_ 15 ?_); refine gB_ 15 Tryz.func71 (a7.calls k _ _ l0_1 _ _ l1_1 true _ (kc_ HR0_1 HB) HC0_1.out (kc_ HR1_1 HB) HC1_1.out A5.out) ?_; intro w18 hb; replace BK553 := bb_ BK553 hb; replace BK554 := bb_ BK554 hb; replace HB := bs_ HB hb; (try clear hb); obtain ⟨hcz19_0, hcz19_1, hcz19_2, hcz19_3, hfz19_0, hfz19_1, hfz19_2, hfz19_3⟩ := cu BK553.out; obtain ⟨hcz20_0, hcz20_1, hcz20_2, hcz20_3, hfz20_0, hfz20_1, hfz20_2, hfz20_3⟩ := cu BK554.out) | ((with_reducible refine gt_ 21 ?_); refine gB_ 21 Tryz.func72 (aD.calls k _ _ l0_2 _ _ l1_2 true _ (kc_ HR0_2 HB) HC0_2.out (kc_ HR1_2 HB) HC1_2.out A7.out) ?_; intro w21 hb; replace BK553 := bb_ BK553 hb; replace BK554 := bb_ BK554 hb; replace HB := bs_ HB hb; (try clear hb); obtain ⟨hcz22_0, hcz22_1, hcz22_2, hcz22_3, hfz22_0, hfz22_1, hfz22_2, hfz22_3⟩ := cu BK553.out; obtain ⟨hcz23_0, hcz23_1, hcz23_2, hcz23_3, hfz23_0, hfz23_1, hfz23_2, hfz23_3⟩ := cu BK554.out))
     go_ret
     exact ⟨u0_, bw_ HB⟩
    ·rw [if_neg c9] at H; have c9b0 := cT c9; have c9b1 := cV c9; obtain rfl := si_ H; go_enter Tryz.func26, Tryz.ntmps26
     go_wp2_with (first | ((with_reducible refine gt_ 2 ?_); refine bx_ 2 #[.slice A0_0 l0_0.length c0_0, .slice A0_1 l0_1.length c0_1, .slice A0_2 l0_2.length c0_2, .int .i64 a0_3] 27 ?_; intro gb553 hg w24 hbox hb; have BK553 := am_ (hbox); have GE553 := gw_ HB hg; replace HB := bs_ HB hb; clear hb hbox hg) | ((with_reducible refine gt_ 3 ?_); refine bx_ 3 #[.slice A1_0 l1_0.length c1_0, .slice A1_1 l1_1.length c1_1, .slice A1_2 l1_2.length c1_2, .int .i64 a1_3] 27 ?_; intro gb554 hg w25 hbox hb; have BK554 := am_ (hbox); have GE554 := gw_ HB hg; replace HB := bs_ HB hb; have NB553_554 := nl_ BK553 hg; have NB554_553 := ng_ BK553 hg; replace BK553 := bb_ BK553 hb; clear hb hbox hg; have hnb26 := NB553_554.out; have hnc26 := NB554_553.out; obtain ⟨hcz27_0, hcz27_1, hcz27_2, hcz27_3, hfz27_0, hfz27_1, hfz27_2, hfz27_3⟩ := cu BK553.out; obtain ⟨hcz28_0, hcz28_1, hcz28_2, hcz28_3, hfz28_0, hfz28_1, hfz28_2, hfz28_3⟩ := cu BK554.out) | ((with_reducible refine gt_ 9 ?_); refine gB_ 9 Tryz.func70 (aA.calls k _ _ l0_0 _ _ l1_0 true _ (kc_ HR0_0 HB) HC0_0.out (kc_ HR1_0 HB) HC1_0.out A3.out) ?_; intro w29 hb; replace BK553 := bb_ BK553 hb; replace BK554 := bb_ BK554 hb; replace HB := bs_ HB hb; (try clear hb); obtain ⟨hcz30_0, hcz30_1, hcz30_2, hcz30_3, hfz30_0, hfz30_1, hfz30_2, hfz30_3⟩ := cu BK553.out; obtain ⟨hcz31_0, hcz31_1, hcz31_2, hcz31_3, hfz31_0, hfz31_1, hfz31_2, hfz31_3⟩ := cu BK554.out) | ((with_reducible refine gt_ 15 ?_); refine gB_ 15 Tryz.func71 (a7.calls k _ _ l0_1 _ _ l1_1 true _ (kc_ HR0_1 HB) HC0_1.out (kc_ HR1_1 HB) HC1_1.out A5.out) ?_; intro w32 hb; replace BK553 := bb_ BK553 hb; replace BK554 := bb_ BK554 hb; replace HB := bs_ HB hb; (try clear hb); obtain ⟨hcz33_0, hcz33_1, hcz33_2, hcz33_3, hfz33_0, hfz33_1, hfz33_2, hfz33_3⟩ := cu BK553.out; obtain ⟨hcz34_0, hcz34_1, hcz34_2, hcz34_3, hfz34_0, hfz34_1, hfz34_2, hfz34_3⟩ := cu BK554.out) | ((with_reducible refine gt_ 21 ?_); refine gB_ 21 Tryz.func72 (aD.calls k _ _ l0_2 _ _ l1_2 true _ (kc_ HR0_2 HB) HC0_2.out (kc_ HR1_2 HB) HC1_2.out A7.out) ?_; intro w35 hb; replace BK553 := bb_ BK553 hb; replace BK554 := bb_ BK554 hb; replace HB := bs_ HB hb; (try clear hb); obtain ⟨hcz36_0, hcz36_1, hcz36_2, hcz36_3, hfz36_0, hfz36_1, hfz36_2, hfz36_3⟩ := cu BK553.out; obtain ⟨hcz37_0, hcz37_1, hcz37_2, hcz37_3, hfz37_0, hfz37_1, hfz37_2, hfz37_3⟩ := cu BK554.out))
     go_ret
     exact ⟨u0_, bw_ HB⟩
def ay.l0 : Nat → Int → ByteArray → Option (ByteArray)
 | 0, _, _ => none
 | k + 1, x0, x3 => if x0 > 0 then ((some (([(wrap64 (48 + (Int.tmod x0 10))) % 256] : List Int) : List Int)).bind fun y558 => (if (strOfNums y558).size + x3.size ≤ 9223372036854775807 then (ay.l0 k (wrap64 (Int.tdiv x0 10)) ((strOfNums y558) ++ x3)) else (none))) else (if 1 + x3.size ≤ 9223372036854775807 then (some ((⟨#[109]⟩ : ByteArray) ++ x3)) else (none))
def ay.f (k : Nat) (a0 : Int) : Option (ByteArray) := if a0 ≤ 0 then (some (⟨#[109, 48]⟩ : ByteArray)) else (ay.l0 k a0 (⟨#[]⟩ : ByteArray))
theorem ay.calls (k : Nat) (a0 : Int) (r : ByteArray) (w : World) (h : ay.f k a0 = some r) :
  Calls Tryz.prog 83 #[.int .i64 a0] w fun e w' => e = .returned (.string r) ∧ Below w.heap.size w w' := by
 have HB := am_ (Below.refl w.heap.size w); have H := h; clear h; unfold ay.f at H
 by_cases c2 : a0 ≤ 0
 ·rw [if_pos c2] at H; have c2b0 := decide_eq_true c2; clear c2; obtain rfl := si_ H; go_enter Tryz.func83, Tryz.ntmps83
  go_wp2; go_ret
  exact ⟨u0_, bw_ HB⟩
 ·rw [if_neg c2] at H; have c2b0 := decide_eq_false c2; clear c2; have H' := am_ H; clear H; go_enter Tryz.func83, Tryz.ntmps83
  go_wp2; go_loopg [0, 3] k (fun kq v0 v3 w' => ∃ (x0_1 : Int) (x3_1 : ByteArray), v0 = .int .i64 x0_1 ∧ v3 = .string x3_1 ∧ aa (ay.l0 kq x0_1 x3_1 = some r) ∧ aa (kq ≤ k) ∧ aa (Below w.heap.size w w'))
  case atStart => exact ⟨(a0), ((⟨#[]⟩ : ByteArray)), u1_, u1_, H', ⟨Nat.le_refl _⟩, ⟨bw_ HB⟩⟩
  case round =>
   clear H'; try clear c2
   try clear c2b0
   obtain ⟨x0_1, x3_1, rfl, rfl, HA, HK1, HB⟩ := hrel; cases gk with
   | zero => exact absurd HA.out (by simp [ay.l0])
   | succ k1 =>
    have H := HA.out; clear HA; simp only [ay.l0] at H; by_cases c3 : x0_1 > 0
    ·rw [if_pos c3] at H; have c3b0 : decide (0 < x0_1) = true := decide_eq_true c3; clear c3; generalize hy558 : ((([(wrap64 (48 + (Int.tmod x0_1 10))) % 256] : List Int)) : List Int) = y558 at H; have Ny558 := am_ hy558.symm; clear hy558; obtain ⟨c4, H⟩ := gn_ H; have c4b0 := eq_true c4; have c4b1 := decide_eq_true c4; try have c4b2 : (9223372036854775807 < (strOfNums y558).size + x3_1.size) = False := eq_false (Nat.not_lt.2 c4)
     have H' := am_ H; clear H; go_wp2_with (first | ((with_reducible refine az (N := 12) rfl ?_); refine Kd.R_lit (Kd.int .u8) _ 5 ?hg (N := 12) ?hd (xs := ([(wrap64 (48 + (Int.tmod x0_1 10))) % 256] : List Int)) (inner := [.int .u8 ((wrap64 (48 + (Int.tmod x0_1 10))) % 256)]) (ok := fun _ => True) (okp := fun _ => True) ?hr ?hp (fun _ hk => hk) trivial (Below.refl _ _) (Nat.le_refl _) cN ?_; (case hd => rfl); (case hg => rfl); (case hr => exact u6_); (case hp => exact (Reps.one (show Kd.M (Kd.int .u8) _ _ _ ((wrap64 (48 + (Int.tmod x0_1 10))) % 256) [.int .u8 ((wrap64 (48 + (Int.tmod x0_1 10))) % 256)] from rfl) (Reps.none _ _))); intro v559 w5 ho6 hb hg_ hnew_; clear hg_ hnew_; (first | rw [← Ny558.out] at ho6 | (simp only [Int.reduceToNat] at ho6; rw [← Ny558.out] at ho6)); have HO560 := am_ (Kd.R_lower ho6 (av (bw_ HB))); replace HB := bs_ HB hb; clear hb ho6; have hcv7 := kx (P := Tryz.prog) Tryz.underlying22 Tryz.underlying5 Tryz.underlying9 (Kd.own_of_R HO560.out)))
     go_roundg k1
     case measure => have := HK1.out; omega
     case rel => exact ⟨(wrap64 (Int.tdiv x0_1 10)), ((strOfNums y558) ++ x3_1), u1_, u1_, H', ⟨dc⟩, ⟨bw_ HB⟩⟩
    ·rw [if_neg c3] at H; have c3b0 : decide (0 < x0_1) = false := decide_eq_false c3; clear c3; obtain ⟨c8, H⟩ := gn_ H; have c8b0 := eq_true c8; have c8b1 := decide_eq_true c8; try have c8b2 : (9223372036854775807 < 1 + x3_1.size) = False := eq_false (Nat.not_lt.2 c8)
     obtain rfl := si_ H; go_wp2; go_ret
     exact ⟨u0_, bw_ HB⟩
section
open Go
def Like (v u : Value) : Prop := v = u ∨ (∃ k x y, v = .int k x ∧ u = .int k y) ∨ ∃ s z, v = .string s ∧ u = .string z
structure Kp (P : Nat → Prop) (w W : World) : Prop where
 le : w.heap.size ≤ W.heap.size
 like : ∀ (g : Nat) (cs : Array Value) (t : TypeId), w.heap[g]? = some (Obj.cells cs t (0, 0)) → ∃ ds : Array Value, W.heap[g]? = some (Obj.cells ds t (0, 0)) ∧ ∀ (j : Nat) (v : Value), cs[j]? = some v → ∃ u : Value, ds[j]? = some u ∧ Like v u
 kept : Kept w W P
theorem Like.refl (v : Value) : Like v v := .inl rfl
theorem Like.trans {a b c : Value} (h : Like a b) (k : Like b c) : Like a c := by
 rcases h with rfl | ⟨q, x, y, rfl, rfl⟩ | ⟨s, z, rfl, rfl⟩
 ·exact k
 ·rcases k with rfl | ⟨_, _, y, e, rfl⟩ | ⟨_, _, e, _⟩
  ·exact .inr (.inl ⟨q, x, y, rfl, rfl⟩)
  ·cases e; exact .inr (.inl ⟨_, x, y, rfl, rfl⟩)
  ·cases e
 ·rcases k with rfl | ⟨_, _, _, e, _⟩ | ⟨_, z', e, rfl⟩
  ·exact .inr (.inr ⟨s, z, rfl, rfl⟩)
  ·cases e
  ·exact .inr (.inr ⟨s, z', rfl, rfl⟩)
section
variable {P : Nat → Prop}
theorem Kp.refl (w : World) : Kp P w w := ⟨Nat.le_refl _, fun g cs t h => ⟨cs, h, fun j v hv => ⟨v, hv, .inl rfl⟩⟩, Kept.refl w P⟩
theorem Kp.trans {w W X : World} (h : Kp P w W) (k : Kp P W X) : Kp P w X := by
 refine ⟨Nat.le_trans h.le k.le, fun g cs t hc => ?_, h.kept.then_ k.kept fun _ hk => .inl hk⟩; obtain ⟨ds, hd, hl⟩ := h.like g cs t hc; obtain ⟨es, he, hm⟩ := k.like g ds t hd; refine ⟨es, he, fun j v hv => ?_⟩; obtain ⟨u, hu, a⟩ := hl j v hv; obtain ⟨z, hz, b⟩ := hm j u hu; exact ⟨z, hz, a.trans b⟩
theorem Kp.below {w W : World} (h : Below w.heap.size w W) : Kp P w W :=
 ⟨h.size, fun g cs t hc => ⟨cs, aU hc h, fun j v hv => ⟨v, hv, .inl rfl⟩⟩, Kept.of_below h P⟩
theorem Kp.drewN {w W : World} (h : Kp P w W) (n : Nat) : Kp P w (W.drewN n) := h.trans (Kp.below (aq (Below.refl _ _) n))
theorem Kp.set {w : World} {g i t : Nat} {cs : Array Value} {v u : Value} (hb : w.heap[g]? = some (.cells cs t (0, 0))) (hv : cs[i]? = some v) (hl : Like v u) (hP : P g) : Kp P w (w.setCell ⟨g, i, none⟩ u) := by
 have hi : i < cs.size := (Array.getElem?_eq_some_iff.1 hv).1; refine ⟨by simp [World.setCell], fun g' cs' t' hc => ?_, (Kept.refl w P).setCell (.inl hP) u⟩; by_cases hg : g' = g
 ·subst hg; rw [hb] at hc; obtain ⟨rfl, rfl⟩ : cs = cs' ∧ t = t' := by simpa using hc
  refine ⟨_, g6 hb i u rfl, fun j x hx => ?_⟩; by_cases hj : j = i
  ·subst hj; rw [hv] at hx; obtain rfl := Option.some.inj hx; exact ⟨u, by simp [Array.getElem?_setIfInBounds, hi], hl⟩
  ·exact ⟨x, by rw [Array.getElem?_setIfInBounds_ne (Ne.symm hj)]; exact hx, .inl rfl⟩
 ·exact ⟨cs', (Below.heap_setCell w ⟨g, i, none⟩ u g' hg).trans hc, fun j x hx => ⟨x, hx, .inl rfl⟩⟩
def Flat (P : Nat → Prop) (w : World) (A : Option Addr) (m : Nat) (Q : Nat → Value → Prop) : Prop :=
 0 < m → ∃ (g off : Nat) (cs : Array Value) (t : TypeId), A = some ⟨g, off, none⟩ ∧ P g ∧ w.heap[g]? = some (Obj.cells cs t (0, 0)) ∧ ∀ j, j < m → ∃ v, cs[off + j]? = some v ∧ Q j v
theorem Flat.kp {w W : World} {A : Option Addr} {m : Nat} {Q Q' : Nat → Value → Prop} (h : Flat P w A m Q) (k : Kp P w W) (hQ : ∀ j v u, Q j v → Like v u → Q' j u) : Flat P W A m Q' := fun hm => by
 obtain ⟨g, off, cs, t, e, hp, hb, hc⟩ := h hm; obtain ⟨ds, hd, hl⟩ := k.like g cs t hb; refine ⟨g, off, ds, t, e, hp, hd, fun j hj => ?_⟩; obtain ⟨v, hv, q⟩ := hc j hj; obtain ⟨u, hu, l⟩ := hl _ v hv; exact ⟨u, hu, hQ j v u q l⟩
def isI (_ : Nat) (v : Value) : Prop := ∃ x, v = .int .i64 x
def isS (_ : Nat) (v : Value) : Prop := ∃ s, v = .string s
theorem isI.like {j : Nat} {v u : Value} (h : isI j v) (l : Like v u) : isI j u := by
 obtain ⟨x, rfl⟩ := h; rcases l with rfl | ⟨_, _, y, e, rfl⟩ | ⟨_, _, e, _⟩
 ·exact ⟨x, rfl⟩
 ·cases e; exact ⟨y, rfl⟩
 ·cases e
theorem isS.like {j : Nat} {v u : Value} (h : isS j v) (l : Like v u) : isS j u := by
 obtain ⟨x, rfl⟩ := h; rcases l with rfl | ⟨_, _, _, e, _⟩ | ⟨_, z, e, rfl⟩
 ·exact ⟨x, rfl⟩
 ·cases e
 ·exact ⟨z, rfl⟩
def n0 : Nat → Int → Int
 | 0, a => a
 | n + 1, a => n0 n (wrap64 (a + 1))
theorem o0 (A : Option Addr) (n c : Nat) (a : Int) (w0 w : World) (hB : Below w0.heap.size w0 w) (hP : ∀ g, P g → w0.heap.size ≤ g) (hS : Flat P w A n isI) (hn : n ≤ 9223372036854775807) :
  Calls Tryz.prog 81 #[.slice A n c, .int .i64 a] w fun e w' => e = .returned (.int .i64 (n0 n a)) ∧ Below w0.heap.size w0 w' ∧ Kp P w w' := by
 have HS := am_ hS; have HB := am_ hB; have HP := am_ hP; have HX := am_ (Kp.refl (P := P) w); clear hS hB hP; go_enter Tryz.func81, Tryz.ntmps81
 go_wp2; go_loopw [1, 5] (fun v1 v5 wr => ∃ (i : Nat) (x : Int), v1 = .int .i64 x ∧ v5 = .int .i64 (i : Int) ∧ i ≤ n ∧ aa (n0 n a = n0 (n - i) x) ∧ aa (Below w0.heap.size w0 wr) ∧ aa (Kp P w wr)) (fun _ v _ => match v with | .int _ i => n - i.toNat | _ => 0)
 case atStart => exact ⟨0, a, rfl, rfl, Nat.zero_le _, ⟨rfl⟩, HB, HX⟩
 case round =>
  clear HB HX; obtain ⟨i, x, rfl, rfl, hi, HE, HB, HX⟩ := hrel; rcases Nat.lt_or_ge i n with hlt | hge
  ·obtain ⟨g, off, cs, t, rfl, hp, hb, hc⟩ := HS.out.kp HX.out (fun _ _ _ => isI.like) u7_; obtain ⟨v, hv, y, rfl⟩ := hc i hlt; have hcell : wr.cell? ⟨g, off + i, none⟩ = some (.int .i64 y) := (bn hb _).trans hv; have hfz := cW hb (off + i); have p1 : ((i : Int) < (n : Int)) = True := eq_true u7_; have p0 : (0 ≤ (i : Int)) = True := eq_true u7_; have HC := am_ hb; have HV := am_ hv; have HPg := am_ hp; clear hb hv hc hp; go_wp2; refine ⟨⟨i + 1, _, rfl, cN, hlt, ⟨by rw [HE.out, show n - i = (n - (i + 1)) + 1 by omega]; rfl⟩, ⟨bj HB.out (HP.out g HPg.out)⟩, ⟨HX.out.trans (Kp.set HC.out HV.out (.inr (.inl ⟨_, _, _, rfl, rfl⟩)) HPg.out)⟩⟩, by simp; omega⟩
  ·obtain rfl : i = n := by omega
   have p1 : ((i : Int) < (i : Int)) = False := eq_false u7_; go_wp2; go_ret
   exact ⟨by rw [HE.out, Nat.sub_self]; rfl, HB.out, HX.out⟩
theorem Flat.get {w W : World} {A : Option Addr} {m : Nat} {Q Q' : Nat → Value → Prop} (h : Flat P w A m Q) (k : Kp P w W) (hQ : ∀ j v u, Q j v → Like v u → Q' j u) (j : Nat) (hj : j < m) : ∃ g off v, A = some ⟨g, off, none⟩ ∧ P g ∧ W.cell? ⟨g, off + j, none⟩ = some v ∧ W.frozen? ⟨g, off + j, none⟩ = false ∧ Q' j v ∧ ∀ u, Like v u → Kp P W (W.setCell ⟨g, off + j, none⟩ u) := by
 obtain ⟨g, off, cs, t, e, hp, hb, hc⟩ := h.kp k hQ u7_; obtain ⟨v, hv, q⟩ := hc j hj; exact ⟨g, off, v, e, hp, (bn hb _).trans hv, cW hb _, q, fun u l => Kp.set hb hv l hp⟩
def mkC (k : Nat) : Nat → Int → Option Int
 | 0, a => some a
 | n + 1, a => (ay.f k a).bind fun _ => (ay.f k (wrap64 (a + 1))).bind fun _ => mkC k n (wrap64 (wrap64 (a + 1) + 1))
theorem n8 (k : Nat) (A : Option Addr) (n c : Nat) (a r : Int) (w0 w : World) (hB : Below w0.heap.size w0 w) (hP : ∀ g, P g → w0.heap.size ≤ g) (hS : Flat P w A (n * 2) isS) (hn : n ≤ 9223372036854775807) (hf : mkC k n a = some r) :
  Calls Tryz.prog 78 #[.slice A n c, .int .i64 a] w fun e w' => e = .returned (.int .i64 r) ∧ Below w0.heap.size w0 w' ∧ Kp P w w' := by
 have hu86 := Tryz.underlying86; have HS := am_ hS; have HB := am_ hB; have HP := am_ hP; have HX := am_ (Kp.refl (P := P) w); have H := am_ hf; clear hS hB hP hf; go_enter Tryz.func78, Tryz.ntmps78
 go_wp2; go_loopw [1, 5] (fun v1 v5 wr => ∃ (i : Nat) (x : Int), v1 = .int .i64 x ∧ v5 = .int .i64 (i : Int) ∧ i ≤ n ∧ aa (mkC k (n - i) x = some r) ∧ aa (Below w0.heap.size w0 wr) ∧ aa (Kp P w wr)) (fun _ v _ => match v with | .int _ i => n - i.toNat | _ => 0)
 case atStart => exact ⟨0, a, rfl, rfl, Nat.zero_le _, H, HB, HX⟩
 case round =>
  clear H HB HX; obtain ⟨i, x, rfl, rfl, hi, H, HB, HX⟩ := hrel; rcases Nat.lt_or_ge i n with hlt | hge
  ·have h := H.out; rw [show n - i = (n - (i + 1)) + 1 by omega, mkC] at h; obtain ⟨s1, A1, h⟩ := bi_ h; obtain ⟨s2, A2, h⟩ := bi_ h; have H := am_ h; obtain ⟨g, off, _, rfl, hp, _⟩ := HS.out.get HX.out (fun _ _ _ => isS.like) (i * 2) u7_; have p1 : ((i : Int) < (n : Int)) = True := eq_true u7_; have p0 : (0 ≤ (i : Int)) = True := eq_true u7_; have HPg := am_ hp; clear h hp; go_wp2_with (first | (go_at_call 83; (with_reducible refine (ay.calls k _ _ _ A1.out).mono ?_); rintro e w1 ⟨rfl, hb⟩; replace HX := am_ (HX.out.trans (Kp.below hb)); replace HB := am_ (bE HB.out hb); obtain ⟨_, _, v, e, _, hc1, hz1, ⟨y, rfl⟩, K1⟩ := HS.out.get HX.out (fun _ _ _ => isS.like) (i * 2) u7_; cases e; replace HB := am_ (bj (j := off + i * 2) (v := .string s1) HB.out (HP.out g HPg.out)); replace HX := am_ (HX.out.trans (K1 (.string s1) (.inr (.inr ⟨_, _, rfl, rfl⟩)))); clear hb K1) | (go_at_call 83; (with_reducible refine (ay.calls k _ _ _ A2.out).mono ?_); rintro e w2 ⟨rfl, hb⟩; replace HX := am_ (HX.out.trans (Kp.below hb)); replace HB := am_ (bE HB.out hb); obtain ⟨_, _, v, e, _, hc2, hz2, ⟨z, rfl⟩, K1⟩ := HS.out.get HX.out (fun _ _ _ => isS.like) (i * 2 + 1) u7_; cases e; replace HB := am_ (bj (j := off + (i * 2 + 1)) (v := .string s2) HB.out (HP.out g HPg.out)); replace HX := am_ (HX.out.trans (K1 (.string s2) (.inr (.inr ⟨_, _, rfl, rfl⟩)))); rw [← Nat.add_assoc] at hc2 hz2; clear hb K1))
   exact ⟨⟨i + 1, _, rfl, cN, hlt, H, HB, HX⟩, by simp; omega⟩
  ·obtain rfl : i = n := by omega
   have h := H.out; rw [Nat.sub_self, mkC] at h; obtain rfl := si_ h; have p1 : ((i : Int) < (i : Int)) = False := eq_false u7_; clear h H; go_wp2; go_ret
   exact ⟨rfl, HB.out, HX.out⟩
theorem Like.int {k : IntKind} {x y : Int} : Like (.int k x) (.int k y) := .inr (.inl ⟨_, _, _, rfl, rfl⟩)
theorem Like.str {s z : ByteArray} : Like (.string s) (.string z) := .inr (.inr ⟨_, _, rfl, rfl⟩)
def isF (j : Nat) (v : Value) : Prop := if j % 3 = 0 then isS j v else isI j v
theorem isF.like {j : Nat} {v u : Value} (h : isF j v) (l : Like v u) : isF j u := by
 unfold isF at h ⊢
 split at h
 ·exact u78_
 ·rw [if_neg oE]; exact h.like l
def mkF (k : Nat) : Nat → Int → Option Int
 | 0, a => some a
 | n + 1, a => (ay.f k a).bind fun _ => mkF k n (wrap64 (wrap64 (wrap64 (a + 1) + 1) + 1))
theorem mM (k : Nat) (A : Option Addr) (n c : Nat) (a r : Int) (w0 w : World) (hB : Below w0.heap.size w0 w) (hP : ∀ g, P g → w0.heap.size ≤ g) (hS : Flat P w A (n * 3) isF) (hn : n ≤ 9223372036854775807) (hf : mkF k n a = some r) :
  Calls Tryz.prog 75 #[.slice A n c, .int .i64 a] w fun e w' => e = .returned (.int .i64 r) ∧ Below w0.heap.size w0 w' ∧ Kp P w w' := by
 have hu92 := Tryz.underlying92; have HS := am_ hS; have HB := am_ hB; have HP := am_ hP; have HX := am_ (Kp.refl (P := P) w); have H := am_ hf; clear hS hB hP hf; go_enter Tryz.func75, Tryz.ntmps75
 go_wp2; go_loopw [1, 5] (fun v1 v5 wr => ∃ (i : Nat) (x : Int), v1 = .int .i64 x ∧ v5 = .int .i64 (i : Int) ∧ i ≤ n ∧ aa (mkF k (n - i) x = some r) ∧ aa (Below w0.heap.size w0 wr) ∧ aa (Kp P w wr)) (fun _ v _ => match v with | .int _ i => n - i.toNat | _ => 0)
 case atStart => exact ⟨0, a, rfl, rfl, Nat.zero_le _, H, HB, HX⟩
 case round =>
  clear H HB HX; obtain ⟨i, x, rfl, rfl, hi, H, HB, HX⟩ := hrel; rcases Nat.lt_or_ge i n with hlt | hge
  ·have h := H.out; rw [show n - i = (n - (i + 1)) + 1 by omega, mkF] at h; obtain ⟨s1, A1, h⟩ := bi_ h; have H := am_ h; obtain ⟨g, off, _, rfl, hp, _⟩ := HS.out.get HX.out (fun _ _ _ => isF.like) (i * 3) u7_; have p1 : ((i : Int) < (n : Int)) = True := eq_true u7_; have p0 : (0 ≤ (i : Int)) = True := eq_true u7_; have HPg := am_ hp; clear h hp; go_wp2_with (first | (go_at_call 83; (with_reducible refine (ay.calls k _ _ _ A1.out).mono ?_); rintro e w1 ⟨rfl, hb⟩; replace HX := am_ (HX.out.trans (Kp.below hb)); replace HB := am_ (bE HB.out hb); obtain ⟨_, _, v, e, _, hc1, hz1, q, K1⟩ := HS.out.get HX.out (fun _ _ _ => isF.like) (i * 3) u7_; cases e; rw [isF, if_pos u7_] at q; obtain ⟨y, rfl⟩ := q; obtain ⟨_, _, v, e, _, hc2, hz2, q, _⟩ := HS.out.get HX.out (fun _ _ _ => isF.like) (i * 3 + 1) u7_; cases e; rw [isF, if_neg u7_] at q; obtain ⟨y2, rfl⟩ := q; obtain ⟨_, _, v, e, _, hc3, hz3, q, _⟩ := HS.out.get HX.out (fun _ _ _ => isF.like) (i * 3 + 2) u7_; cases e; rw [isF, if_neg u7_] at q; obtain ⟨y3, rfl⟩ := q; rw [← Nat.add_assoc] at hc2 hz2 hc3 hz3; replace HX := am_ (HX.out.trans (K1 (.string s1) Like.str)); clear K1; obtain ⟨_, _, v, e, _, _, _, q, K1⟩ := HS.out.get HX.out (fun _ _ _ => isF.like) (i * 3 + 1) u7_; cases e; rw [isF, if_neg u7_] at q; obtain ⟨z, rfl⟩ := q; replace HX := am_ (HX.out.trans (K1 (.int .i64 (wrap64 (x + 1))) Like.int)); clear K1; obtain ⟨_, _, v, e, _, _, _, q, K1⟩ := HS.out.get HX.out (fun _ _ _ => isF.like) (i * 3 + 2) u7_; cases e; rw [isF, if_neg u7_] at q; obtain ⟨z2, rfl⟩ := q; replace HX := am_ (HX.out.trans (K1 (.int .i64 (wrap64 (wrap64 (x + 1) + 1))) Like.int)); replace HB := am_ (bj (j := off + (i * 3 + 2)) (v := .int .i64 (wrap64 (wrap64 (x + 1) + 1))) (bj (j := off + (i * 3 + 1)) (v := .int .i64 (wrap64 (x + 1))) (bj (j := off + i * 3) (v := .string s1) HB.out (HP.out g HPg.out)) (HP.out g HPg.out)) (HP.out g HPg.out)); clear hb K1))
   exact ⟨⟨i + 1, _, rfl, cN, hlt, H, HB, HX⟩, by simp; omega⟩
  ·obtain rfl : i = n := by omega
   have h := H.out; rw [Nat.sub_self, mkF] at h; obtain rfl := si_ h; have p1 : ((i : Int) < (i : Int)) = False := eq_false u7_; clear h H; go_wp2; go_ret
   exact ⟨rfl, HB.out, HX.out⟩
def isP (P : Nat → Prop) (W : World) (ns : List Nat) (j : Nat) (v : Value) : Prop := if j % 2 = 0 then isI j v else ∃ A c, v = .slice A (ns.getD (j / 2) 0) c ∧ ns.getD (j / 2) 0 ≤ 9223372036854775807 ∧ Flat P W A (ns.getD (j / 2) 0) isI
theorem Like.slice {A : Option Addr} {n c : Nat} {u : Value} (l : Like (.slice A n c) u) : u = .slice A n c := by
 rcases l with rfl | ⟨_, _, _, e, _⟩ | ⟨_, _, e, _⟩
 ·rfl
 ·cases e
 ·cases e
theorem isP.kp {w W : World} {ns : List Nat} {j : Nat} {v u : Value} (h : isP P w ns j v) (K : Kp P w W) (l : Like v u) : isP P W ns j u := by
 unfold isP at h ⊢
 split at h
 ·exact u78_
 ·rw [if_neg oE]; obtain ⟨A, c, rfl, hm, hF⟩ := h; exact ⟨A, c, l.slice, hm, hF.kp K fun _ _ _ => isI.like⟩
def mkP : List Nat → Int → Int
 | [], a => a
 | n :: ns, a => mkP ns (n0 n (wrap64 (a + 1)))
theorem nz (A : Option Addr) (ns : List Nat) (c : Nat) (a : Int) (w0 w : World) (hB : Below w0.heap.size w0 w) (hP : ∀ g, P g → w0.heap.size ≤ g) (hS : Flat P w A (ns.length * 2) (isP P w ns)) (hn : ns.length ≤ 9223372036854775807) :
  Calls Tryz.prog 34 #[.slice A ns.length c, .int .i64 a] w fun e w' => e = .returned (.int .i64 (mkP ns a)) ∧ Below w0.heap.size w0 w' ∧ Kp P w w' := by
 have hu50 := Tryz.underlying50; have HS := am_ hS; have HB := am_ hB; have HP := am_ hP; have HX := am_ (Kp.refl (P := P) w); clear hS hB hP; go_enter Tryz.func34, Tryz.ntmps34
 go_wp2; go_loopw [1, 5] (fun v1 v5 wr => ∃ (i : Nat) (x : Int), v1 = .int .i64 x ∧ v5 = .int .i64 (i : Int) ∧ i ≤ ns.length ∧ aa (mkP ns a = mkP (ns.drop i) x) ∧ aa (Below w0.heap.size w0 wr) ∧ aa (Kp P w wr)) (fun _ v _ => match v with | .int _ i => ns.length - i.toNat | _ => 0)
 case atStart => exact ⟨0, a, rfl, rfl, Nat.zero_le _, ⟨rfl⟩, HB, HX⟩
 case round =>
  clear HB HX; obtain ⟨i, x, rfl, rfl, hi, H, HB, HX⟩ := hrel; rcases Nat.lt_or_ge i ns.length with hlt | hge
  ·have h := H.out; rw [List.drop_eq_getElem_cons hlt, mkP] at h; have H := am_ h; obtain ⟨g, off, v, rfl, hp, hc1, hz1, q, K1⟩ := HS.out.get HX.out (fun _ _ _ q l => q.kp HX.out l) (i * 2) u7_; rw [isP, if_pos u7_] at q; obtain ⟨y, rfl⟩ := q; obtain ⟨_, _, v, e, _, hc2, hz2, q, _⟩ := HS.out.get HX.out (fun _ _ _ q l => q.kp HX.out l) (i * 2 + 1) u7_; cases e; rw [isP, if_neg u7_, show (i * 2 + 1) / 2 = i by omega, List.getD_eq_getElem?_getD, List.getElem?_eq_getElem hlt, Option.getD_some] at q; obtain ⟨A2, c2, rfl, hm, hF⟩ := q; rw [← Nat.add_assoc] at hc2 hz2; have p1 : ((i : Int) < (ns.length : Int)) = True := eq_true u7_; have p0 : (0 ≤ (i : Int)) = True := eq_true u7_; have K := am_ (K1 (.int .i64 x) Like.int); have HF := am_ (hF.kp K.out fun _ _ _ => isI.like); replace HX := am_ (HX.out.trans K.out); replace HB := am_ (bj (j := off + i * 2) (v := .int .i64 x) HB.out (HP.out g hp)); clear h hp hF K1 K; go_wp2_with (first | (go_at_call 81; (with_reducible refine (o0 (P := P) A2 _ c2 _ w0 _ HB.out HP.out HF.out hm).mono ?_); rintro e w1 ⟨rfl, hb, hk⟩; replace HX := am_ (HX.out.trans hk); replace HB := am_ hb; clear hb hk))
   exact ⟨⟨i + 1, _, rfl, cN, hlt, H, HB, HX⟩, by simp; omega⟩
  ·obtain rfl : i = ns.length := by omega
   have h := H.out; rw [List.drop_length, mkP] at h; have H := am_ h; have p1 : ((ns.length : Int) < (ns.length : Int)) = False := eq_false u7_; clear h; go_wp2; go_ret
   exact ⟨by rw [H.out]; rfl, HB.out, HX.out⟩
def isR (P : Nat → Prop) (W : World) (ns : List Nat) (j : Nat) (v : Value) : Prop := if j % 3 = 0 then isI j v else if j % 3 = 1 then isS j v else ∃ A c, v = .slice A (ns.getD (j / 3) 0) c ∧ ns.getD (j / 3) 0 ≤ 9223372036854775807 ∧ Flat P W A (ns.getD (j / 3) 0 * 2) isS
theorem isR.kp {w W : World} {ns : List Nat} {j : Nat} {v u : Value} (h : isR P w ns j v) (K : Kp P w W) (l : Like v u) : isR P W ns j u := by
 unfold isR at h ⊢
 split at h
 ·exact u78_
 ·rw [if_neg oE]; split at h
  ·exact u78_
  ·rw [if_neg oE]; obtain ⟨A, c, rfl, hm, hF⟩ := h; exact ⟨A, c, l.slice, hm, hF.kp K fun _ _ _ => isS.like⟩
def mkR (k : Nat) : List Nat → Int → Option Int
 | [], a => some a
 | n :: ns, a => (ay.f k (wrap64 (a + 1))).bind fun _ => (mkC k n (wrap64 (wrap64 (a + 1) + 1))).bind fun b => mkR k ns b
theorem ou (k : Nat) (A : Option Addr) (ns : List Nat) (c : Nat) (a r : Int) (w0 w : World) (hB : Below w0.heap.size w0 w) (hP : ∀ g, P g → w0.heap.size ≤ g) (hS : Flat P w A (ns.length * 3) (isR P w ns)) (hn : ns.length ≤ 9223372036854775807) (hf : mkR k ns a = some r) :
  Calls Tryz.prog 76 #[.slice A ns.length c, .int .i64 a] w fun e w' => e = .returned (.int .i64 r) ∧ Below w0.heap.size w0 w' ∧ Kp P w w' := by
 have hu46 := Tryz.underlying46; have hu44 := Tryz.underlying44; have HS := am_ hS; have HB := am_ hB; have HP := am_ hP; have HX := am_ (Kp.refl (P := P) w); have H := am_ hf; clear hS hB hP hf; go_enter Tryz.func76, Tryz.ntmps76
 go_wp2; go_loopw [1, 5] (fun v1 v5 wr => ∃ (i : Nat) (x : Int), v1 = .int .i64 x ∧ v5 = .int .i64 (i : Int) ∧ i ≤ ns.length ∧ aa (mkR k (ns.drop i) x = some r) ∧ aa (Below w0.heap.size w0 wr) ∧ aa (Kp P w wr)) (fun _ v _ => match v with | .int _ i => ns.length - i.toNat | _ => 0)
 case atStart => exact ⟨0, a, rfl, rfl, Nat.zero_le _, H, HB, HX⟩
 case round =>
  clear H HB HX; obtain ⟨i, x, rfl, rfl, hi, H, HB, HX⟩ := hrel; rcases Nat.lt_or_ge i ns.length with hlt | hge
  ·have h := H.out; rw [List.drop_eq_getElem_cons hlt, mkR] at h; obtain ⟨s1, A1, h⟩ := bi_ h; obtain ⟨b, A2, h⟩ := bi_ h; have H := am_ h; obtain ⟨g, off, v, rfl, hp, hc1, hz1, q, K1⟩ := HS.out.get HX.out (fun _ _ _ q l => q.kp HX.out l) (i * 3) u7_; rw [isR, if_pos u7_] at q; obtain ⟨y, rfl⟩ := q; have p1 : ((i : Int) < (ns.length : Int)) = True := eq_true u7_; have p0 : (0 ≤ (i : Int)) = True := eq_true u7_; have HPg := am_ hp; replace HX := am_ (HX.out.trans (K1 (.int .i64 x) Like.int)); replace HB := am_ (bj (j := off + i * 3) (v := .int .i64 x) HB.out (HP.out g hp)); clear h hp K1; go_wp2_with (first | (go_at_call 83; (with_reducible refine (ay.calls k _ _ _ A1.out).mono ?_); rintro e w1 ⟨rfl, hb⟩; replace HX := am_ (HX.out.trans (Kp.below hb)); replace HB := am_ (bE HB.out hb); obtain ⟨_, _, v, e, _, hc2, hz2, q, K1⟩ := HS.out.get HX.out (fun _ _ _ q l => q.kp HX.out l) (i * 3 + 1) u7_; cases e; rw [isR, if_neg u7_, if_pos u7_] at q; obtain ⟨y2, rfl⟩ := q; obtain ⟨_, _, v, e, _, hc3, hz3, q, _⟩ := HS.out.get HX.out (fun _ _ _ q l => q.kp HX.out l) (i * 3 + 2) u7_; cases e; rw [isR, if_neg u7_, if_neg u7_, show (i * 3 + 2) / 3 = i by omega, List.getD_eq_getElem?_getD, List.getElem?_eq_getElem hlt, Option.getD_some] at q; obtain ⟨D, c2, rfl, hm, hF⟩ := q; rw [← Nat.add_assoc] at hc2 hz2 hc3 hz3; have K : aa (Kp P w1 (w1.setCell ⟨g, off + i * 3 + 1, none⟩ (.string s1))) := ⟨K1 (.string s1) Like.str⟩; have HF := am_ (hF.kp K.out fun _ _ _ => isS.like); replace HX := am_ (HX.out.trans K.out); replace HB := am_ (bj (j := off + i * 3 + 1) (v := .string s1) HB.out (HP.out g HPg.out)); clear hb hF K1 K) | (go_at_call 78; (with_reducible refine (n8 (P := P) k _ _ _ _ _ w0 _ HB.out HP.out HF.out hm A2.out).mono ?_); rintro e w2 ⟨rfl, hb, hk⟩; replace HX := am_ (HX.out.trans hk); replace HB := am_ hb; clear hb hk))
   exact ⟨⟨i + 1, _, rfl, cN, hlt, H, HB, HX⟩, by simp; omega⟩
  ·obtain rfl : i = ns.length := by omega
   have h := H.out; rw [List.drop_length, mkR] at h; obtain rfl := si_ h; have p1 : ((ns.length : Int) < (ns.length : Int)) = False := eq_false u7_; clear h H; go_wp2; go_ret
   exact ⟨rfl, HB.out, HX.out⟩
def isE (P : Nat → Prop) (W : World) (ns : List (List Nat)) (j : Nat) (v : Value) : Prop := if j % 3 = 0 then isS j v else if j % 3 = 1 then isS j v else ∃ A c, v = .slice A (ns.getD (j / 3) []).length c ∧ (ns.getD (j / 3) []).length ≤ 9223372036854775807 ∧ Flat P W A ((ns.getD (j / 3) []).length * 2) (isP P W (ns.getD (j / 3) []))
theorem isE.kp {w W : World} {ns : List (List Nat)} {j : Nat} {v u : Value} (h : isE P w ns j v) (K : Kp P w W) (l : Like v u) : isE P W ns j u := by
 unfold isE at h ⊢
 split at h
 ·exact u78_
 ·rw [if_neg oE]; split at h
  ·exact u78_
  ·rw [if_neg oE]; obtain ⟨A, c, rfl, hm, hF⟩ := h; exact ⟨A, c, l.slice, hm, hF.kp K fun _ _ _ q l => q.kp K l⟩
def mkE (k : Nat) : List (List Nat) → Int → Option Int
 | [], a => some a
 | n :: ns, a => (ay.f k a).bind fun _ => (ay.f k (wrap64 (a + 1))).bind fun _ => mkE k ns (mkP n (wrap64 (wrap64 (a + 1) + 1)))
theorem mS (k : Nat) (A : Option Addr) (ns : List (List Nat)) (c : Nat) (a r : Int) (w0 w : World) (hB : Below w0.heap.size w0 w) (hP : ∀ g, P g → w0.heap.size ≤ g) (hS : Flat P w A (ns.length * 3) (isE P w ns)) (hn : ns.length ≤ 9223372036854775807) (hf : mkE k ns a = some r) :
  Calls Tryz.prog 77 #[.slice A ns.length c, .int .i64 a] w fun e w' => e = .returned (.int .i64 r) ∧ Below w0.heap.size w0 w' ∧ Kp P w w' := by
 have hu76 := Tryz.underlying76; have HS := am_ hS; have HB := am_ hB; have HP := am_ hP; have HX := am_ (Kp.refl (P := P) w); have H := am_ hf; clear hS hB hP hf; go_enter Tryz.func77, Tryz.ntmps77
 go_wp2; go_loopw [1, 5] (fun v1 v5 wr => ∃ (i : Nat) (x : Int), v1 = .int .i64 x ∧ v5 = .int .i64 (i : Int) ∧ i ≤ ns.length ∧ aa (mkE k (ns.drop i) x = some r) ∧ aa (Below w0.heap.size w0 wr) ∧ aa (Kp P w wr)) (fun _ v _ => match v with | .int _ i => ns.length - i.toNat | _ => 0)
 case atStart => exact ⟨0, a, rfl, rfl, Nat.zero_le _, H, HB, HX⟩
 case round =>
  clear H HB HX; obtain ⟨i, x, rfl, rfl, hi, H, HB, HX⟩ := hrel; rcases Nat.lt_or_ge i ns.length with hlt | hge
  ·have h := H.out; rw [List.drop_eq_getElem_cons hlt, mkE] at h; obtain ⟨s1, A1, h⟩ := bi_ h; obtain ⟨s2, A2, h⟩ := bi_ h; have H := am_ h; obtain ⟨g, off, v, rfl, hp, _⟩ := HS.out.get HX.out (fun _ _ _ q l => q.kp HX.out l) (i * 3) u7_; have p1 : ((i : Int) < (ns.length : Int)) = True := eq_true u7_; have p0 : (0 ≤ (i : Int)) = True := eq_true u7_; have HPg := am_ hp; clear h hp; go_wp2_with (first | (go_at_call 83; (with_reducible refine (ay.calls k _ _ _ A1.out).mono ?_); rintro e w1 ⟨rfl, hb⟩; replace HX := am_ (HX.out.trans (Kp.below hb)); replace HB := am_ (bE HB.out hb); obtain ⟨_, _, v, e, _, hc1, hz1, q, K1⟩ := HS.out.get HX.out (fun _ _ _ q l => q.kp HX.out l) (i * 3) u7_; cases e; rw [isE, if_pos u7_] at q; obtain ⟨y1, rfl⟩ := q; replace HX := am_ (HX.out.trans (K1 (.string s1) Like.str)); replace HB := am_ (bj (j := off + i * 3) (v := .string s1) HB.out (HP.out g HPg.out)); clear hb K1) | (go_at_call 83; (with_reducible refine (ay.calls k _ _ _ A2.out).mono ?_); rintro e w2 ⟨rfl, hb⟩; replace HX := am_ (HX.out.trans (Kp.below hb)); replace HB := am_ (bE HB.out hb); obtain ⟨_, _, v, e, _, hc2, hz2, q, K1⟩ := HS.out.get HX.out (fun _ _ _ q l => q.kp HX.out l) (i * 3 + 1) u7_; cases e; rw [isE, if_neg u7_, if_pos u7_] at q; obtain ⟨y2, rfl⟩ := q; obtain ⟨_, _, v, e, _, hc3, hz3, q, _⟩ := HS.out.get HX.out (fun _ _ _ q l => q.kp HX.out l) (i * 3 + 2) u7_; cases e; rw [isE, if_neg u7_, if_neg u7_, show (i * 3 + 2) / 3 = i by omega, List.getD_eq_getElem?_getD, List.getElem?_eq_getElem hlt, Option.getD_some] at q; obtain ⟨D, c2, rfl, hm, hF⟩ := q; rw [← Nat.add_assoc] at hc2 hz2 hc3 hz3; have K : aa (Kp P w2 (w2.setCell ⟨g, off + i * 3 + 1, none⟩ (.string s2))) := ⟨K1 (.string s2) Like.str⟩; have HF := am_ (hF.kp K.out fun _ _ _ q l => q.kp K.out l); replace HX := am_ (HX.out.trans K.out); replace HB := am_ (bj (j := off + i * 3 + 1) (v := .string s2) HB.out (HP.out g HPg.out)); clear hb hF K1 K) | (go_at_call 34; (with_reducible refine (nz (P := P) _ _ _ _ w0 _ HB.out HP.out HF.out hm).mono ?_); rintro e w2 ⟨rfl, hb, hk⟩; replace HX := am_ (HX.out.trans hk); replace HB := am_ hb; clear hb hk))
   exact ⟨⟨i + 1, _, rfl, cN, hlt, H, HB, HX⟩, by simp; omega⟩
  ·obtain rfl : i = ns.length := by omega
   have h := H.out; rw [List.drop_length, mkE] at h; obtain rfl := si_ h; have p1 : ((ns.length : Int) < (ns.length : Int)) = False := eq_false u7_; clear h H; go_wp2; go_ret
   exact ⟨rfl, HB.out, HX.out⟩
theorem Kp.sl {w W : World} {g t n c : Nat} {cs : Array Value} {A : Option Addr} (k : Kp P w W) (hb : w.heap[g]? = some (Obj.cells cs t (0, 0))) (j : Nat) (hj : cs[j]? = some (.slice A n c)) : W.cell? ⟨g, j, none⟩ = some (.slice A n c) ∧ W.frozen? ⟨g, j, none⟩ = false := by
 obtain ⟨ds, hd, hl⟩ := k.like g cs t hb; obtain ⟨u, hu, l⟩ := hl j _ hj; rw [l.slice] at hu; exact ⟨(bn hd j).trans hu, cW hd j⟩
def mkI (k n : Nat) (rs : List Nat) (es : List (List Nat)) (a : Int) : Option Int := (mkF k n a).bind fun b => (mkR k rs b).bind fun c => mkE k es c
theorem nr (k : Nat) (A B D : Option Addr) (n c cB cD : Nat) (rs : List Nat) (es : List (List Nat)) (x a r : Int) (w0 w : World) (hB : Below w0.heap.size w0 w) (hP : ∀ g, P g → w0.heap.size ≤ g)
  (hF : Flat P w A (n * 3) isF) (hR : Flat P w B (rs.length * 3) (isR P w rs)) (hE : Flat P w D (es.length * 3) (isE P w es)) (hn : n ≤ 9223372036854775807) (hnR : rs.length ≤ 9223372036854775807) (hnE : es.length ≤ 9223372036854775807) (hf : mkI k n rs es a = some r) :
  Calls Tryz.prog 30 #[.agg #[.slice A n c, .slice B rs.length cB, .slice D es.length cD, .int .i64 x], .int .i64 a] w fun e w' => e = .returned (.int .i64 r) ∧ Below w0.heap.size w0 w' ∧ Kp P w w' := by
 have hu27 := Tryz.underlying27; have HF := am_ hF; have HR := am_ hR; have HE := am_ hE; have HB := am_ hB; have HP := am_ hP; have HX := am_ (Kp.refl (P := P) w); unfold mkI at hf
 obtain ⟨b, A1, hf⟩ := bi_ hf; obtain ⟨d, A2, hf⟩ := bi_ hf; have A3 := am_ hf; clear hF hR hE hB hP hf; go_enter Tryz.func30, Tryz.ntmps30
 go_wp2_with (first | ((with_reducible refine gt_ 2 ?_); refine bx_ 2 #[.slice A n c, .slice B rs.length cB, .slice D es.length cD, .int .i64 x] 27 ?_; intro g hg w1 hbox hb; have BK := am_ hbox; replace HX := am_ (HX.out.trans (Kp.below hb)); have HY := am_ (Kp.refl (P := P) w1); replace HB := am_ (bE HB.out hb); obtain ⟨f0, z0⟩ := HY.out.sl BK.out 0 rfl; clear hb hg hbox) | (go_at_call 75; (with_reducible refine (mM (P := P) k _ _ _ _ _ w0 _ HB.out HP.out (HF.out.kp HX.out fun _ _ _ => isF.like) hn A1.out).mono ?_); rintro e w2 ⟨rfl, hb, hk⟩; replace HX := am_ (HX.out.trans hk); replace HY := am_ (HY.out.trans hk); replace HB := am_ hb; obtain ⟨f1, z1⟩ := HY.out.sl BK.out 1 rfl; clear hb hk) | (go_at_call 76; (with_reducible refine (ou (P := P) k _ _ _ _ _ w0 _ HB.out HP.out (HR.out.kp HX.out fun _ _ _ q l => q.kp HX.out l) hnR A2.out).mono ?_); rintro e w3 ⟨rfl, hb, hk⟩; replace HX := am_ (HX.out.trans hk); replace HY := am_ (HY.out.trans hk); replace HB := am_ hb; obtain ⟨f2, z2⟩ := HY.out.sl BK.out 2 rfl; clear hb hk) | (go_at_call 77; (with_reducible refine (mS (P := P) k _ _ _ _ _ w0 _ HB.out HP.out (HE.out.kp HX.out fun _ _ _ q l => q.kp HX.out l) hnE A3.out).mono ?_); rintro e w4 ⟨rfl, hb, hk⟩; replace HX := am_ (HX.out.trans hk); replace HB := am_ hb; clear hb hk))
 go_ret
 exact ⟨rfl, HB.out, HX.out⟩
end
theorem rowM {α : Type} {d : Kd α} {e base : Nat} {w : World} {ok : Nat → Prop} {v : Value} {xs : List α} (h : Kd.R d e w base ok v xs) : ∃ A c, v = .slice A xs.length c ∧ (0 < xs.length → ∃ (g : Nat) (cur : Array Value), A = some ⟨g, 0, none⟩ ∧ ok g ∧ w.heap[g]? = some (Obj.cells cur e (0, 0)) ∧ ∀ (j : Nat) (x : α), xs[j]? = some x → ∃ c : List Value, d.M w base ok x c ∧ c.length = d.sz ∧ ∀ (i : Nat) (u : Value), c[i]? = some u → cur[j * d.sz + i]? = some u) := by
 obtain ⟨h0, inner, ⟨hlen, ho⟩, hr⟩ := h; rcases ho with ⟨rfl, hn⟩ | ⟨g, cap, cur, rfl, hb, hh, hl, hm, hs, ht⟩
 ·exact ⟨none, 0, by rw [hn], fun h => by omega⟩
 ·refine ⟨_, cap, rfl, fun _ => ⟨g, cur, rfl, h0 g rfl, hh, fun j x hx => ⟨_, d.M_mono (fun k hk => hk.1) (hr.2 j x hx), d.K_len (d.K_of_M (hr.2 j x hx)), fun i u hu => ?_⟩⟩⟩; have hj : j < xs.length := (List.getElem?_eq_some_iff.1 hx).1; have hi : i < d.sz := by
   have := (List.getElem?_eq_some_iff.1 hu).1; rw [d.K_len (d.K_of_M (hr.2 j x hx))] at this; exact this
  have hlt : j * d.sz + i < xs.length * d.sz := by
   have : j * d.sz + d.sz ≤ xs.length * d.sz := by rw [← Nat.succ_mul]; exact Nat.mul_le_mul_right _ hj
   omega
  rw [List.getElem?_take, if_pos hi, List.getElem?_drop, ← ht, List.getElem?_take, if_pos hlt, Array.getElem?_toList] at hu; exact hu
theorem flatI {w : World} {base : Nat} {ok P : Nat → Prop} {v : Value} {xs : List Int} (h : Kd.R (Kd.int .i64) 3 w base ok v xs) (hP : ∀ k, ok k → P k) : ∃ A c, v = .slice A xs.length c ∧ Flat P w A xs.length isI := by
 obtain ⟨A, c, rfl, hf⟩ := rowM h; refine ⟨A, c, rfl, fun hn => ?_⟩; obtain ⟨g, cur, rfl, hg, hh, hc⟩ := hf hn; refine ⟨g, 0, cur, 3, rfl, hP g hg, hh, fun j hj => ?_⟩; obtain ⟨c, hM, _, hu⟩ := hc j _ (List.getElem?_eq_getElem hj); obtain rfl : c = [.int .i64 xs[j]] := hM; exact ⟨.int .i64 xs[j], by rw [Nat.zero_add]; have := hu 0 _ rfl; simpa [Kd.int, Kd.scalar] using this, _, rfl⟩
theorem flatS {w : World} {base : Nat} {ok P : Nat → Prop} {v : Value} {xs : List S86} (h : Kd.R k86 86 w base ok v xs) (hP : ∀ k, ok k → P k) : ∃ A c, v = .slice A xs.length c ∧ Flat P w A (xs.length * 2) isS := by
 obtain ⟨A, c, rfl, hf⟩ := rowM h; refine ⟨A, c, rfl, fun hn => ?_⟩; obtain ⟨g, cur, rfl, hg, hh, hc⟩ := hf u7_; refine ⟨g, 0, cur, 86, rfl, hP g hg, hh, fun j hj => ?_⟩; obtain ⟨c, hM, _, hu⟩ := hc (j / 2) _ (List.getElem?_eq_getElem u7_); obtain rfl := jB hM; rw [Nat.zero_add]; rcases Nat.mod_two_eq_zero_or_one j with e | e
 ·have := hu 0 _ rfl; rw [show j / 2 * k86.sz + 0 = j from by show j / 2 * 2 + 0 = j; omega] at this; exact ⟨_, this, _, rfl⟩
 ·have := hu 1 _ rfl; rw [show j / 2 * k86.sz + 1 = j from by show j / 2 * 2 + 1 = j; omega] at this; exact ⟨_, this, _, rfl⟩
theorem flatF {w : World} {base : Nat} {ok P : Nat → Prop} {v : Value} {xs : List S92} (h : Kd.R k92 92 w base ok v xs) (hP : ∀ k, ok k → P k) : ∃ A c, v = .slice A xs.length c ∧ Flat P w A (xs.length * 3) isF := by
 obtain ⟨A, c, rfl, hf⟩ := rowM h; refine ⟨A, c, rfl, fun hn => ?_⟩; obtain ⟨g, cur, rfl, hg, hh, hc⟩ := hf u7_; refine ⟨g, 0, cur, 92, rfl, hP g hg, hh, fun j hj => ?_⟩; obtain ⟨c, hM, _, hu⟩ := hc (j / 3) _ (List.getElem?_eq_getElem u7_); obtain rfl := jw hM; rw [Nat.zero_add]; unfold isF
 rcases (by omega : j % 3 = 0 ∨ j % 3 = 1 ∨ j % 3 = 2) with e | e | e
 ·have := hu 0 _ rfl; rw [show j / 3 * k92.sz + 0 = j from by show j / 3 * 3 + 0 = j; omega] at this; exact ⟨_, this, u72_⟩
 ·have := hu 1 _ rfl; rw [show j / 3 * k92.sz + 1 = j from by show j / 3 * 3 + 1 = j; omega] at this; exact ⟨_, this, by rw [if_neg u7_]; exact ⟨_, rfl⟩⟩
 ·have := hu 2 _ rfl; rw [show j / 3 * k92.sz + 2 = j from by show j / 3 * 3 + 2 = j; omega] at this; exact ⟨_, this, by rw [if_neg u7_]; exact ⟨_, rfl⟩⟩
theorem nA {α : Type} (f : α → Nat) (xs : List α) (i : Nat) (h : i < xs.length) : (xs.map f).getD i 0 = f xs[i] := by simp [List.getD_eq_getElem?_getD, List.getElem?_eq_getElem h]
theorem rG {α : Type} (f : α → List Nat) (xs : List α) (i : Nat) (h : i < xs.length) : (xs.map f).getD i [] = f xs[i] := by simp [List.getD_eq_getElem?_getD, List.getElem?_eq_getElem h]
theorem flatP {w : World} {base : Nat} {ok P : Nat → Prop} {v : Value} {xs : List S50} (h : Kd.R k50 50 w base ok v xs) (hP : ∀ k, ok k → P k) : ∃ A c, v = .slice A (xs.map fun x => x.f1.length).length c ∧ Flat P w A ((xs.map fun x => x.f1.length).length * 2) (isP P w (xs.map fun x => x.f1.length)) := by
 rw [List.length_map]; obtain ⟨A, c, rfl, hf⟩ := rowM h; refine ⟨A, c, rfl, fun hn => ?_⟩; obtain ⟨g, cur, rfl, hg, hh, hc⟩ := hf u7_; refine ⟨g, 0, cur, 50, rfl, hP g hg, hh, fun j hj => ?_⟩; obtain ⟨c, hM, _, hu⟩ := hc (j / 2) _ (List.getElem?_eq_getElem u7_); obtain ⟨v1, rfl, hv⟩ := g5 hM; rw [Nat.zero_add]; unfold isP
 rcases Nat.mod_two_eq_zero_or_one j with e | e
 ·have := hu 0 _ rfl; rw [show j / 2 * k50.sz + 0 = j from by show j / 2 * 2 + 0 = j; omega] at this; exact ⟨_, this, u72_⟩
 ·have := hu 1 _ rfl; rw [show j / 2 * k50.sz + 1 = j from by show j / 2 * 2 + 1 = j; omega] at this; refine ⟨_, this, ?_⟩; rw [if_neg u7_, nA _ _ _ u7_]; obtain ⟨A, c, rfl, hF⟩ := flatI hv hP; exact ⟨A, c, rfl, (Kd.R_reads' hv).2.2.2.1, hF⟩
theorem flatR {w : World} {base : Nat} {ok P : Nat → Prop} {v : Value} {xs : List S46} (h : Kd.R k46 46 w base ok v xs) (hP : ∀ k, ok k → P k) : ∃ A c, v = .slice A (xs.map fun x => x.f1.f1.length).length c ∧ Flat P w A ((xs.map fun x => x.f1.f1.length).length * 3) (isR P w (xs.map fun x => x.f1.f1.length)) := by
 rw [List.length_map]; obtain ⟨A, c, rfl, hf⟩ := rowM h; refine ⟨A, c, rfl, fun hn => ?_⟩; obtain ⟨g, cur, rfl, hg, hh, hc⟩ := hf u7_; refine ⟨g, 0, cur, 46, rfl, hP g hg, hh, fun j hj => ?_⟩; obtain ⟨c, hM, _, hu⟩ := hc (j / 3) _ (List.getElem?_eq_getElem u7_); obtain ⟨v1, rfl, hv⟩ := jb hM; rw [Nat.zero_add]; unfold isR
 rcases (by omega : j % 3 = 0 ∨ j % 3 = 1 ∨ j % 3 = 2) with e | e | e
 ·have := hu 0 _ rfl; rw [show j / 3 * k46.sz + 0 = j from by show j / 3 * 3 + 0 = j; omega] at this; exact ⟨_, this, u72_⟩
 ·have := hu 1 _ rfl; rw [show j / 3 * k46.sz + 1 = j from by show j / 3 * 3 + 1 = j; omega] at this; exact ⟨_, this, by rw [if_neg u7_, if_pos e]; exact ⟨_, rfl⟩⟩
 ·have := hu 2 _ rfl; rw [show j / 3 * k46.sz + 2 = j from by show j / 3 * 3 + 2 = j; omega] at this; refine ⟨_, this, ?_⟩; rw [if_neg u7_, if_neg u7_, nA _ _ _ u7_]; obtain ⟨A, c, rfl, hF⟩ := flatS hv hP; exact ⟨A, c, rfl, (Kd.R_reads' hv).2.2.2.1, hF⟩
theorem flatE {w : World} {base : Nat} {ok P : Nat → Prop} {v : Value} {xs : List S76} (h : Kd.R k76 76 w base ok v xs) (hP : ∀ k, ok k → P k) : ∃ A c, v = .slice A (xs.map fun x => x.f2.map fun p => p.f1.length).length c ∧ Flat P w A ((xs.map fun x => x.f2.map fun p => p.f1.length).length * 3) (isE P w (xs.map fun x => x.f2.map fun p => p.f1.length)) := by
 rw [List.length_map]; obtain ⟨A, c, rfl, hf⟩ := rowM h; refine ⟨A, c, rfl, fun hn => ?_⟩; obtain ⟨g, cur, rfl, hg, hh, hc⟩ := hf u7_; refine ⟨g, 0, cur, 76, rfl, hP g hg, hh, fun j hj => ?_⟩; obtain ⟨c, hM, _, hu⟩ := hc (j / 3) _ (List.getElem?_eq_getElem u7_); obtain ⟨v1, rfl, hv⟩ := gW hM; rw [Nat.zero_add]; unfold isE
 rcases (by omega : j % 3 = 0 ∨ j % 3 = 1 ∨ j % 3 = 2) with e | e | e
 ·have := hu 0 _ rfl; rw [show j / 3 * k76.sz + 0 = j from by show j / 3 * 3 + 0 = j; omega] at this; exact ⟨_, this, u72_⟩
 ·have := hu 1 _ rfl; rw [show j / 3 * k76.sz + 1 = j from by show j / 3 * 3 + 1 = j; omega] at this; exact ⟨_, this, by rw [if_neg u7_, if_pos e]; exact ⟨_, rfl⟩⟩
 ·have := hu 2 _ rfl; rw [show j / 3 * k76.sz + 2 = j from by show j / 3 * 3 + 2 = j; omega] at this; refine ⟨_, this, ?_⟩; rw [if_neg u7_, if_neg u7_, rG _ _ _ u7_]; obtain ⟨A, c, rfl, hF⟩ := flatP hv hP; exact ⟨A, c, rfl, by rw [List.length_map]; exact (Kd.R_reads' hv).2.2.2.1, hF⟩
def dF.f (k : Nat) (l0_0 : List (S92)) (l0_1 : List (S46)) (l0_2 : List (S76)) (a0_3 a1 : Int) : Option Int := mkI k l0_0.length (l0_1.map fun x => x.f1.f1.length) (l0_2.map fun x => x.f2.map fun p => p.f1.length) a1
theorem dF.calls (k : Nat) (P : Nat → Prop) (v0 v1 v2 : Value) (l0 : List (S92)) (l1 : List (S46)) (l2 : List (S76)) (x a r : Int) (w0 w : World) (hB : Below w0.heap.size w0 w) (h0 : Kd.R k92 92 w w0.heap.size P v0 l0) (h1 : Kd.R k46 46 w w0.heap.size P v1 l1) (h2 : Kd.R k76 76 w w0.heap.size P v2 l2) (h : dF.f k l0 l1 l2 x a = some r) :
  Calls Tryz.prog 30 #[.agg #[v0, v1, v2, .int .i64 x], .int .i64 a] w fun e w' => e = .returned (.int .i64 r) ∧ Below w0.heap.size w0 w' ∧ Kept w w' P := by
 obtain ⟨A, c, rfl, hF⟩ := flatF (P := fun k => P k ∧ w0.heap.size ≤ k) (Kd.R_bound h0) fun _ h => ⟨h.1, h.2.1⟩
 obtain ⟨B, cB, rfl, hR⟩ := flatR (P := fun k => P k ∧ w0.heap.size ≤ k) (Kd.R_bound h1) fun _ h => ⟨h.1, h.2.1⟩
 obtain ⟨D, cD, rfl, hE⟩ := flatE (P := fun k => P k ∧ w0.heap.size ≤ k) (Kd.R_bound h2) fun _ h => ⟨h.1, h.2.1⟩
 refine (nr k A B D l0.length c cB cD _ _ x a r w0 w hB (fun _ h => h.2) hF hR hE (Kd.R_reads' h0).2.2.2.1 ?_ ?_ h).mono fun e w' h => ⟨h.1, h.2.1, h.2.2.kept.mono fun _ h => h.1⟩
 ·rw [List.length_map]; exact (Kd.R_reads' h1).2.2.2.1
 ·rw [List.length_map]; exact (Kd.R_reads' h2).2.2.2.1
def Px (w : World) (v u : Value) (k : Nat) : Prop := (∃ q ∈ [92, 46, 86, 76, 50, 3], ∃ c : Array Value, w.heap[k]? = some (Obj.cells c q (0, 0))) ∧ some k ≠ v.ownBlock ∧ some k ≠ u.ownBlock
theorem Px.R {α β γ : Type} {d : Kd α} {d1 : Kd β} {d2 : Kd γ} {e e1 e2 b b1 b2 : Nat} {w : World} {ok ok1 ok2 : Nat → Prop} {v v1 v2 : Value} {xs : List α} {ys : List β} {zs : List γ} (h : Kd.R d e w b ok v xs) (h1 : Kd.R d1 e1 w b1 ok1 v1 ys) (h2 : Kd.R d2 e2 w b2 ok2 v2 zs) (hs : (e :: d.E).all (fun q => decide (q ∈ [92, 46, 86, 76, 50, 3])) = true) (hb : (∀ q ∈ e :: d.E, q ≠ e1) ∨ ∀ k, ok k → some k ≠ v1.ownBlock) (hd : (∀ q ∈ e :: d.E, q ≠ e2) ∨ ∀ k, ok k → some k ≠ v2.ownBlock) : Kd.R d e w b (Px w v1 v2) v xs := by
 refine Kd.R_mono (Kd.R_bound h) fun k ⟨ho, _, _, q, hq, c, hc⟩ => ?_
 have ha := of_decide_eq_true (List.all_eq_true.1 hs q hq); refine ⟨⟨q, ha, c, hc⟩, fun e => ?_, fun e => ?_⟩
 ·rcases hb with hb | hb
  ·obtain ⟨c', hc'⟩ := Kd.R_typed h1 k e.symm; rw [hc] at hc'; have := Option.some.inj hc'; injection this with _ hh
   exact hb q hq hh
  ·exact hb k ho e
 ·rcases hd with hb | hb
  ·obtain ⟨c', hc'⟩ := Kd.R_typed h2 k e.symm; rw [hc] at hc'; have := Option.some.inj hc'; injection this with _ hh
   exact hb q hq hh
  ·exact hb k ho e
theorem Px.trivR {α : Type} {d : Kd α} {e b : Nat} {w : World} {ok : Nat → Prop} {v : Value} {xs : List α} (h : Kd.R d e w b ok v xs) : Kd.R d e w b (fun k => ok k ∧ True) v xs := Kd.R_mono h fun _ h => ⟨h, trivial⟩
theorem Px.trivS {α : Type} {d : Kd α} {e b : Nat} {w : World} {ok : Nat → Prop} {v : Value} {xs : List α} (h : Kd.S d e w b ok v xs) : Kd.S d e w b (fun k => ok k ∧ True) v xs := Kd.S_mono h fun _ h => ⟨h, trivial⟩
theorem Px.far {w w' : World} {v u : Value} {g t : Nat} {cs : Array Value} (hb : w.heap[g]? = some (Obj.cells cs t (0, 0))) (hk : Kept w w' (Px w v u)) (ht : t ∉ [92, 46, 86, 76, 50, 3]) : w'.heap[g]? = some (Obj.cells cs t (0, 0)) := by
 refine e6 hb hk fun h => ?_
 obtain ⟨⟨q, hq, c, hc⟩, _⟩ := h; rw [hb] at hc; have := Option.some.inj hc; injection this with _ hh
 exact ht (hh ▸ hq)
end
def bo.l0 : Nat → List ByteArray → List ByteArray → Int → Option (Bool)
 | 0, _, _, _ => none
 | k + 1, x0, x1, x5 => if x5 < (x0.length : Int) then (if 0 ≤ x5 then (if x5 < (x1.length : Int) then (if (eA ByteArray.empty x0 x5).toList = (eA ByteArray.empty x1 x5).toList then (bo.l0 k x0 x1 (wrap64 (x5 + 1))) else (some false)) else (none)) else (none)) else (some true)
def bo.f (k : Nat) (l0 : List ByteArray) (l1 : List ByteArray) : Option (Bool) := if (l0.length : Int) = (l1.length : Int) then (bo.l0 k l0 l1 0) else (some false)
theorem bo.calls (k : Nat) (A0 : Option Addr) (c0 : Nat) (l0 : List ByteArray) (A1 : Option Addr) (c1 : Nat) (l1 : List ByteArray) (r : Bool) (w : World) (hr0 : Kd.C Kd.string w A0 l0.length l0) (hc0 : l0.length ≤ c0) (hr1 : Kd.C Kd.string w A1 l1.length l1) (hc1 : l1.length ≤ c1) (h : bo.f k l0 l1 = some r) :
  Calls Tryz.prog 36 #[.slice A0 l0.length c0, .slice A1 l1.length c1] w fun e w' => e = .returned (.bool r) ∧ Drawn0 w w' := by
 have HR0 := am_ hr0; have HC0 := am_ hc0; clear hr0 hc0; have HR1 := am_ hr1; have HC1 := am_ hc1; clear hr1 hc1; have H := h; clear h; unfold bo.f at H
 by_cases c3 : (l0.length : Int) = (l1.length : Int)
 ·rw [if_pos c3] at H; have c3b0 := cQ c3; have c3b1 := cO c3; have c3b2 : (l0.length == l1.length) = true := by first | simpa using c3 | (simp at c3 ⊢; omega)
  clear c3; have H' := am_ H; clear H; go_enter Tryz.func36, Tryz.ntmps36
  go_wp2; repeat (go_quiet (fail); try go_wp2)
  go_loopg [5] k (fun kq v5 w' => ∃ (x5_1 : Int), v5 = .int .i64 x5_1 ∧ aa (bo.l0 kq l0 l1 x5_1 = some r) ∧ aa (kq ≤ k) ∧ Drawn0 w w')
  case atStart => exact ⟨(0), u1_, H', ⟨Nat.le_refl _⟩, u3_⟩
  case round =>
   clear H'; try clear c1
   try clear c3
   try clear c3b0
   try clear c3b1
   try clear c3b2
   obtain ⟨x5_1, rfl, HA, HK1, ⟨m1, rfl⟩⟩ := hrel; cases gk with
   | zero => exact absurd HA.out (by simp [bo.l0])
   | succ k1 =>
    have H := HA.out; clear HA; simp only [bo.l0] at H; by_cases c4 : x5_1 < (l0.length : Int)
    ·rw [if_pos c4] at H; have c4b0 := decide_eq_true c4; clear c4; obtain ⟨c5b0, H⟩ := gd_ H; obtain ⟨c6b0, H⟩ := gd_ H; have HC_ := am_ H; clear H; obtain ⟨ad561, e561, hx561_0⟩ := Kd.at_string HR0.out x5_1 od_ od_; cases e561; obtain ⟨p561, q561⟩ := pt_ x5_1 l0.length; obtain ⟨ad562, e562, hx562_0⟩ := Kd.at_string HR1.out x5_1 od_ od_; cases e562; obtain ⟨p562, q562⟩ := pt_ x5_1 l1.length; have H := HC_.out; clear HC_; by_cases c7 : (eA ByteArray.empty l0 x5_1).toList = (eA ByteArray.empty l1 x5_1).toList
     ·rw [if_pos c7] at H; have c7b0 := cQ c7; have c7b1 := cO c7; clear c7; have H' := am_ H; clear H; (first | rw [c7b0] | (simp only [ao, au]; rw [c7b0]) | skip)
      go_wp2; repeat (go_quiet (fail); try go_wp2)
      go_roundg k1
      case measure => have := HK1.out; omega
      case rel => exact ⟨(wrap64 (x5_1 + 1)), u1_, H', ⟨dc⟩, u3_⟩
     ·rw [if_neg c7] at H; have c7b0 := cT c7; have c7b1 := cV c7; obtain rfl := si_ H; (first | rw [c7b0] | (simp only [ao, au]; rw [c7b0]) | skip)
      go_wp2; repeat (go_quiet (fail); try go_wp2)
      go_ret
      exact ⟨u4_, u3_⟩
    ·rw [if_neg c4] at H; have c4b0 := decide_eq_false c4; clear c4; obtain rfl := si_ H; go_wp2; repeat (go_quiet (fail); try go_wp2)
     go_ret
     exact ⟨u4_, u3_⟩
 ·rw [if_neg c3] at H; have c3b0 := cT c3; have c3b1 := cV c3; have c3b2 : (l0.length == l1.length) = false := by first | simpa using c3 | (simp at c3 ⊢; omega)
  obtain rfl := si_ H; go_enter Tryz.func36, Tryz.ntmps36
  go_wp2; repeat (go_quiet (fail); try go_wp2)
  go_ret
  exact ⟨u4_, u3_⟩
def bq.l0 : Nat → List ByteArray → Int → Int → Option (Int × List ByteArray)
 | 0, _, _, _ => none
 | k + 1, x0, x1, x5 => if x5 < (x0.length : Int) then ((ay.f k x1).bind fun t563 => (if 0 ≤ x5 then (bq.l0 k (x0.set (x5 : Int).toNat t563) (wrap64 (x1 + 1)) (wrap64 (x5 + 1))) else (none))) else (some (x1, x0))
def bq.f (k : Nat) (l0 : List ByteArray) (a1 : Int) : Option (Int × List ByteArray) := bq.l0 k l0 a1 0
theorem bq.calls (k : Nat) (P0_ : Nat → Prop) (u9000_ : Value) (l0 : List ByteArray) (a1 : Int) (r1 : Int) (r2 : List ByteArray) (w0 w : World) (hB : Below w0.heap.size w0 w) (ho0 : Kd.R Kd.string 9 w w0.heap.size P0_ u9000_ l0) (h : bq.f k l0 a1 = some (r1, r2)) :
  Calls Tryz.prog 37 #[u9000_, .int .i64 a1] w fun e w' => e = .returned (.int .i64 r1) ∧ Kd.R Kd.string 9 w' w0.heap.size (fun k_ => (P0_ k_ ∨ w.heap.size ≤ k_)) u9000_ r2 ∧ Below w0.heap.size w0 w' ∧ Kept w w' (fun k_ => P0_ k_) := by
 have HO0 := am_ (show Kd.R Kd.string 9 w w0.heap.size (fun k_ => (P0_ k_ ∨ w.heap.size ≤ k_)) u9000_ l0 from Kd.R_mono ho0 (fun k_ hk => (.inl hk))); have HK := am_ (Kept.refl w (fun k_ => P0_ k_)); have HW0 := am_ hB.size; have HB := am_ hB; clear hB; have H := h; clear h; unfold bq.f at H
 have H' := am_ H; clear H; go_enter Tryz.func37, Tryz.ntmps37
 go_wp2; go_loopg [1, 5] k (fun kq v1 v5 w' => ∃ (x0_1 : List ByteArray) (x1_1 : Int) (x5_1 : Int), v1 = .int .i64 x1_1 ∧ v5 = .int .i64 x5_1 ∧ aa (bq.l0 kq x0_1 x1_1 x5_1 = some (r1, r2)) ∧ aa (kq ≤ k) ∧ aa (Kd.R Kd.string 9 w' w0.heap.size (fun k_ => (P0_ k_ ∨ w.heap.size ≤ k_)) u9000_ x0_1) ∧ aa (Kept w w' (fun k_ => P0_ k_)) ∧ aa (Below w0.heap.size w0 w'))
 case atStart => exact ⟨(l0), (a1), (0), u1_, u1_, H', ⟨Nat.le_refl _⟩, ⟨aR_ HO0.out⟩, ⟨u2_⟩, ⟨bw_ HB⟩⟩
 case round =>
  clear H'; obtain ⟨x0_1, x1_1, x5_1, rfl, rfl, HA, HK1, HO_0, HK, HB⟩ := hrel; cases gk with
  | zero => exact absurd HA.out (by simp [bq.l0])
  | succ k1 =>
   have H := HA.out; clear HA; simp only [bq.l0] at H; by_cases c3 : x5_1 < (x0_1.length : Int)
   ·rw [if_pos c3] at H; have c3b0 := decide_eq_true c3; clear c3; obtain ⟨t563, A4, H⟩ := bi_ H; obtain ⟨c5b0, H⟩ := gd_ H; generalize hy564 : ((x0_1.set (x5_1 : Int).toNat t563) : List ByteArray) = y564 at H; have Ny564 := am_ hy564.symm; clear hy564; have H' := am_ H; clear H; obtain ⟨Ao7, co7, eo7⟩ := Kd.R_slice HO_0.out; subst eo7; go_wp2_with (first | ((with_reducible refine gt_ 15 ?_); refine gB_ 15 Tryz.func83 (ay.calls k1 x1_1 t563 _ A4.out) ?_; intro w8 hb; replace HO_0 := am_ (Kd.R_below (aR_ HO_0.out) hb); replace HK := am_ (Kept.below (S := (fun k_ => P0_ k_)) u2_ hb); replace HB := bs_ HB hb; (try clear hb); have p6 : 0 ≤ (x5_1 : Int) := od_; have q6 : (x5_1 : Int) < ((x0_1.length : Int) : Int) := od_; obtain ⟨go6, co6, eo6, gb6, gl6, cl6, HG6⟩ := Kd.R_form HO_0.out u7_; (first | cases eo6 | (injection eo6 with ea_ en_ ec_; (first | subst ea_ | (injection ea_ with ea_; subst ea_)); subst ec_; clear en_)); have GB6 := am_ gb6; have GG6 := am_ HG6; clear gb6 gl6 HG6; have HMgo6 := am_ (show (P0_ go6 ∨ w.heap.size ≤ go6) from (HO_0.out.1 _ rfl)); obtain ⟨hx6_0, hf6_0⟩ := Kd.R_celln (⟨#[]⟩ : ByteArray) HO_0.out (x5_1 : Int) p6 q6; obtain ⟨p6, q6⟩ := tt_ p6 q6; obtain ⟨hy9_, hz9_⟩ := Kd.R_celln (⟨#[]⟩ : ByteArray) HO_0.out (x5_1 : Int) (od_) (od_); have HP9 := Kd.R_putg HO_0.out (x5_1 : Int) t563) | ((with_reducible refine eI (t := 9) (p := 16) rfl ?_); refine d9 (t := 9) (p := 16) (v := ?vo_w10) (w1 := (w8.setCell ⟨go6, (x5_1 : Int).toNat, none⟩ (.string t563))) ?hg ?ho ?hn ?hr ?_; (case ho => rfl); (case hg => rfl); (case hn => rfl); (case hr => exact u6_); intro w10 hw; have hg : w8.grownBy w10 (some go6) := (by rw [hw]; exact HP9.2); have hp_ : Kd.R Kd.string 9 w10 w0.heap.size (fun k_ => (P0_ k_ ∨ w.heap.size ≤ k_)) (.slice (some ⟨go6, 0, none⟩) x0_1.length co7) y564 := (by rw [hw, Ny564.out]; exact HP9.1); clear HP9; replace HB := am_ ((by rw [hw]; exact bj (HB.out) GB6.out : Below w0.heap.size w0 w10)); replace HK := am_ (Kept.of_grown (S := (fun k_ => P0_ k_)) hg u2_ (fun k_ e_ => (HO_0.out.1 k_ e_))); replace HO_0 := am_ (hp_); clear hg hw hp_))
    go_roundg k1
    case measure => have := HK1.out; omega
    case rel => exact ⟨(y564), (wrap64 (x1_1 + 1)), (wrap64 (x5_1 + 1)), u1_, u1_, H', ⟨dc⟩, ⟨aR_ HO_0.out⟩, ⟨u2_⟩, ⟨bw_ HB⟩⟩
   ·rw [if_neg c3] at H; have c3b0 := decide_eq_false c3; clear c3; simp only [Option.some.injEq, Prod.mk.injEq] at H; obtain ⟨rfl, rfl⟩ := H; obtain ⟨Ao11, co11, eo11⟩ := Kd.R_slice HO_0.out; subst eo11; go_wp2; go_ret
    exact ⟨u0_, aR_ HO_0.out, bw_ HB, u2_⟩
def bk.l0 : Nat → List ByteArray → Int → Int → Option (Int)
 | 0, _, _, _ => none
 | k + 1, x0, x1, x5 => if x5 < (x0.length : Int) then (if 0 ≤ x5 then ((ay.f k x1).bind fun t566 => (if (eA ByteArray.empty x0 x5).toList = t566.toList then (bk.l0 k x0 (wrap64 (x1 + 1)) (wrap64 (x5 + 1))) else (some (-1)))) else (none)) else (some x1)
def bk.f (k : Nat) (l0 : List ByteArray) (a1 : Int) : Option (Int) := bk.l0 k l0 a1 0
theorem bk.calls (k : Nat) (A0 : Option Addr) (c0 : Nat) (l0 : List ByteArray) (a1 : Int) (r : Int) (w : World) (hr0 : Kd.C Kd.string w A0 l0.length l0) (hc0 : l0.length ≤ c0) (h : bk.f k l0 a1 = some r) :
  Calls Tryz.prog 38 #[.slice A0 l0.length c0, .int .i64 a1] w fun e w' => e = .returned (.int .i64 r) ∧ Below w.heap.size w w' := by
 have HR0 := am_ hr0; have HC0 := am_ hc0; clear hr0 hc0; have HB := am_ (Below.refl w.heap.size w); have H := h; clear h; unfold bk.f at H
 have H' := am_ H; clear H; go_enter Tryz.func38, Tryz.ntmps38
 go_wp2; go_loopg [1, 5] k (fun kq v1 v5 w' => ∃ (x1_1 : Int) (x5_1 : Int), v1 = .int .i64 x1_1 ∧ v5 = .int .i64 x5_1 ∧ aa (bk.l0 kq l0 x1_1 x5_1 = some r) ∧ aa (kq ≤ k) ∧ aa (Below w.heap.size w w'))
 case atStart => exact ⟨(a1), (0), u1_, u1_, H', ⟨Nat.le_refl _⟩, ⟨bw_ HB⟩⟩
 case round =>
  clear H'; obtain ⟨x1_1, x5_1, rfl, rfl, HA, HK1, HB⟩ := hrel; cases gk with
  | zero => exact absurd HA.out (by simp [bk.l0])
  | succ k1 =>
   have H := HA.out; clear HA; simp only [bk.l0] at H; by_cases c3 : x5_1 < (l0.length : Int)
   ·rw [if_pos c3] at H; have c3b0 := decide_eq_true c3; clear c3; obtain ⟨c4b0, H⟩ := gd_ H; obtain ⟨t566, A5, H⟩ := bi_ H; have HC_ := am_ H; clear H; try go_wp2
    replace HB := am_ (aQ HB.out); obtain ⟨ad565, e565, hx565_0⟩ := Kd.at_string HR0.out x5_1 od_ od_; have hw565_0 := hx565_0; cases e565; replace hx565_0 := cb_ HB hx565_0; obtain ⟨p565, q565⟩ := pt_ x5_1 l0.length; refine dk (n := 7) (S := fun w' => w'.cell? (ad565.add (x5_1).toNat) = some (.string (eA ByteArray.empty l0 x5_1))) (ds := []) (bm_ 7 0) b9 rfl rfl ((cc_ HB hw565_0)) (fun hHeld => ?_); generalize wr.drew = w7 at HB hx565_0 hHeld ⊢; refine jJ (i := 0) (N := some 12) (v := ?_) (a' := ?_) (bm_ 7 1) rfl rfl b9 (fun _ _ _ h => h) (Or.inl ⟨cI, ?_⟩) ?_ ?_; rotate_left
    ·exact u63_
    rotate_left
    ·exact m3
    refine jJ (i := 1) (N := some 13) (v := ?_) (a' := ?_) (bm_ 7 3) rfl rfl b9 (fun _ _ _ h => h) (Or.inl ⟨cI, ?_⟩) ?_ ?_; rotate_left
    ·exact u63_
    rotate_left
    ·exact m3
    refine jJ (i := 2) (N := some 14) (v := ?_) (a' := ?_) (bm_ 7 7) rfl rfl b9 (fun _ _ _ h => h) (Or.inl ⟨cI, ?_⟩) ?_ ?_; rotate_left
    ·exact u63_
    rotate_left
    ·exact m3
    refine jJ (i := 4) (N := some 16) (v := ?_) (a' := ?_) (bm_ 7 23) rfl rfl b9 (fun _ _ _ h => h) (Or.inl ⟨cI, ?_⟩) ?_ ?_; rotate_left
    ·exact u63_
    rotate_left
    ·exact m3
    refine take_ (i := 3) (N := some 15) (v := ?_) (a' := ?_) (bm_ 7 31) rfl rfl b9 (fun _ _ _ h => h) (Or.inl ⟨cI, ?_⟩) hHeld ?_ ?_; rotate_left
    ·intro w' s0; go_simp; with_reducible rfl
    rotate_left
    ·exact m3
    refine one_ (i := 5) (N := some 17) (bm_ 7 63) rfl rfl b9 bs (fun K hK => ?_); refine oB_ Tryz.func83 (ay.calls k1 x1_1 t566 _ A5.out) ?_; intro w8 hb; replace HB := bs_ HB hb; (try clear hb)
    refine hK.out _ _ ((cc_ HB hw565_0)) (fun hHeld => ?_); clear hK K; refine nm_ ?_; refine jJ (i := 6) (N := some 18) (v := ?_) (a' := ?_) (bm_ 7 127) rfl rfl b9 (fun _ _ _ h => h) (Or.inl ⟨cI, ?_⟩) ?_ ?_; rotate_left
    ·exact u63_
    rotate_left
    ·exact m3
    refine qR b9 ?_; have H := HC_.out; clear HC_; by_cases c6 : (eA ByteArray.empty l0 x5_1).toList = t566.toList
    ·rw [if_pos c6] at H; have c6b0 := cQ c6; have c6b1 := cO c6; clear c6; have H' := am_ H; clear H; (first | rw [c6b0] | (simp only [ao, au]; rw [c6b0]) | skip)
     try go_wp2
     go_roundg k1
     case measure => have := HK1.out; omega
     case rel => exact ⟨(wrap64 (x1_1 + 1)), (wrap64 (x5_1 + 1)), u1_, u1_, H', ⟨dc⟩, ⟨bw_ HB⟩⟩
    ·rw [if_neg c6] at H; have c6b0 := cT c6; have c6b1 := cV c6; obtain rfl := si_ H; (first | rw [c6b0] | (simp only [ao, au]; rw [c6b0]) | skip)
     try go_wp2
     go_ret
     exact ⟨u0_, bw_ HB⟩
   ·rw [if_neg c3] at H; have c3b0 := decide_eq_false c3; clear c3; obtain rfl := si_ H; go_wp2; go_ret
    exact ⟨u0_, bw_ HB⟩
section
open Go
def bD.f (k : Nat) (l0_0 : List d8) (l0_1 : List dW) (l0_2 : List dV) (a0_3 : Int) (a1 a2 : ByteArray) : Option Bool :=
 if (a1.size : Int) > 1048576 then some true else if (a2.size : Int) > 1048576 then some true else
 (dx.f k l0_0 l0_1 l0_2 a0_3 1048576).bind fun t => if t < 0 then some true else
 (di.f k l0_0 l0_1 l0_2 a0_3).bind fun x =>
 (ba.f k x.1 x.2.1 x.2.2.1 x.2.2.2 a1 a2).bind fun p =>
 (aT.f k x.1 x.2.1 x.2.2.1 x.2.2.2 a1 a2).bind fun g =>
 (bo.f k g p).bind fun b1 =>
 (dL.f k x.1 x.2.1 x.2.2.1 x.2.2.2 x.1 x.2.1 x.2.2.1 x.2.2.2).bind fun b2 =>
 (dF.f k x.1 x.2.1 x.2.2.1 x.2.2.2 1).bind fun m =>
 (bq.f k g 1).bind fun s =>
 (bk.f k s.2 1).bind fun q =>
 if b1 = true ∧ b2 = true ∧ (0 ≤ m) ∧ 0 ≤ q ∧ q = s.1 then some true else none
theorem st4_ {b w : World} {g : Nat} {u0 u1 u2 u3 : Value} (h : Below b.heap.size b w) (hg : b.heap.size ≤ g) : Below b.heap.size b ((((w.setCell ⟨g, 0, none⟩ u0).setCell ⟨g, 1, none⟩ u1).setCell ⟨g, 2, none⟩ u2).setCell ⟨g, 3, none⟩ u3) :=
 bj (bj (bj (bj h hg) hg) hg) hg
theorem bk9_ {w : World} {g t : Nat} {v0 v1 v2 v3 u0 u1 u2 u3 : Value} (h : w.heap[g]? = some (.cells #[v0, v1, v2, v3] t (0, 0))) : ((((w.setCell ⟨g, 0, none⟩ u0).setCell ⟨g, 1, none⟩ u1).setCell ⟨g, 2, none⟩ u2).setCell ⟨g, 3, none⟩ u3).heap[g]? = some (.cells #[u0, u1, u2, u3] t (0, 0)) :=
 g6 (g6 (g6 (g6 h 0 u0 rfl) 1 u1 rfl) 2 u2 rfl) 3 u3 rfl
theorem fk {b c w : World} (h : aa (Below b.heap.size b c)) (k : aa (Below c.heap.size c w)) : aa (Below b.heap.size b w) := ⟨bE h.out k.out⟩
theorem kP_ {α : Type} {d : Kd α} {e base n c : Nat} {ok : Nat → Prop} {w w1 : World} {A : Option Addr} {xs : List α} (h : aa (Kd.S d e w base ok (.slice A n c) xs)) (hB : aa (Below w.heap.size w w1)) : d.C w1 A xs.length xs ∧ xs.length ≤ c := by
 obtain ⟨rfl, h1, h2⟩ := Kd.S_reads' h.out; exact ⟨Kd.C_below h2 hB.out, h1⟩
theorem kQ_ {α : Type} {d : Kd α} {e base n c : Nat} {ok : Nat → Prop} {w w1 : World} {A : Option Addr} {xs : List α} (h : aa (Kd.R d e w base ok (.slice A n c) xs)) (hB : aa (Below w.heap.size w w1)) : d.C w1 A xs.length xs ∧ xs.length ≤ c := by
 obtain ⟨rfl, h1, h2⟩ := Kd.R_reads' h.out; exact ⟨Kd.C_below h2 hB.out, h1⟩
theorem keepR_ {α : Type} {d : Kd α} {e B : Nat} {ok : Nat → Prop} {w w1 w2 : World} {v : Value} {xs : List α} (h : aa (Kd.R d e w B ok v xs)) (hB : aa (Below w.heap.size w w1)) (hk : Kept w1 w2 (fun k_ => k_ < B)) : Kd.R d e w2 B ok v xs :=
 Kd.R_mono (Kd.R_step (Kd.R_bound (Kd.R_below h.out hB.out)) (fun k h_ hl => hk.2 k hl (Nat.not_lt.2 h_.2.1))) (fun _ h_ => h_.1)
theorem px_ {α : Type} {d : Kd α} {e b : Nat} {ok : Nat → Prop} {w w1 : World} {v : Value} {xs : List α} (h : Kd.R d e w b ok v xs) (hB : aa (Below w.heap.size w w1)) : Kd.R d e w1 b (fun k => k < w.heap.size) v xs := Kd.R_below (Kd.R_mono (Kd.R_bound h) fun k hk => hk.2.2.1) hB.out
theorem ig (k : Nat) (A : Option Addr) (n c : Nat) (l : List ByteArray) (a r : Int) (w : World) (hn : l.length = n) (hr : Kd.C Kd.string w A l.length l ∧ l.length ≤ c) (h : bk.f k l a = some r) :
  Calls Tryz.prog 38 #[.slice A n c, .int .i64 a] w fun e w' => e = .returned (.int .i64 r) ∧ Below w.heap.size w w' := by
 subst hn; exact bk.calls k A c l a r w hr.1 hr.2 h
theorem gL (k : Nat) (A0 : Option Addr) (c0 : Nat) (l0 : List ByteArray) (A1 : Option Addr) (c1 : Nat) (l1 : List ByteArray) (r : Bool) (w : World) (hr0 : Kd.C Kd.string w A0 l0.length l0) (hc0 : l0.length ≤ c0) (hr1 : Kd.C Kd.string w A1 l1.length l1) (hc1 : l1.length ≤ c1) (h : bo.f k l0 l1 = some r) :
  Calls Tryz.prog 36 #[.slice A0 l0.length c0, .slice A1 l1.length c1] w fun e w' => e = .returned (.bool r) ∧ Below w.heap.size w w' := by
 refine (bo.calls k A0 c0 l0 A1 c1 l1 r w hr0 hc0 hr1 hc1 h).mono ?_; rintro e w' ⟨he, nd, rfl⟩; exact ⟨he, aq (Below.refl _ _) nd⟩
theorem keepP_ {α : Type} {d : Kd α} {e base B : Nat} {ok : Nat → Prop} {w w1 w2 : World} {v : Value} {xs : List α} (h : aa (Kd.R d e w base ok v xs)) (hB : aa (Below w.heap.size w w1)) (hk : Kept w1 w2 (fun k_ => B ≤ k_)) (hl : w.heap.size ≤ B) : Kd.R d e w2 base ok v xs :=
 Kd.R_mono (Kd.R_step (Kd.R_below (Kd.R_bound h.out) hB.out) (fun k h_ hlt => hk.2 k hlt (Nat.not_le.2 (Nat.lt_of_lt_of_le h_.2.2.1 hl)))) (fun _ h_ => h_.1)
theorem bD.calls (k : Nat) (A0_0 : Option Addr) (c0_0 : Nat) (l0_0 : List d8) (A0_1 : Option Addr) (c0_1 : Nat) (l0_1 : List dW) (A0_2 : Option Addr) (c0_2 : Nat) (l0_2 : List dV) (a0_3 : Int) (a1 : ByteArray) (a2 : ByteArray) (r : Bool) (w : World) (hG : StopsIn w) (hr0_0 : Kd.C nm w A0_0 l0_0.length l0_0) (hc0_0 : l0_0.length ≤ c0_0) (hr0_1 : Kd.C n7 w A0_1 l0_1.length l0_1) (hc0_1 : l0_1.length ≤ c0_1) (hr0_2 : Kd.C nF w A0_2 l0_2.length l0_2) (hc0_2 : l0_2.length ≤ c0_2) (h : bD.f k l0_0 l0_1 l0_2 a0_3 a1 a2 = some r) :
  Calls Tryz.prog 8 #[.agg #[.slice A0_0 l0_0.length c0_0, .slice A0_1 l0_1.length c0_1, .slice A0_2 l0_2.length c0_2, .int .i64 a0_3], .string a1, .string a2] w fun e w' => e = .returned (.bool r) ∧ Below w.heap.size w w' := by
 have hu56 := Tryz.underlying56; have hu27 := Tryz.underlying27; have HG_ := am_ hG; have HR0_0 := am_ hr0_0; have HC0_0 := am_ hc0_0; have HR0_1 := am_ hr0_1; have HC0_1 := am_ hc0_1; have HR0_2 := am_ hr0_2; have HC0_2 := am_ hc0_2; clear hG hr0_0 hc0_0 hr0_1 hc0_1 hr0_2 hc0_2; have HB := am_ (Below.refl w.heap.size w); unfold bD.f at h
 by_cases c1 : (a1.size : Int) > 1048576
 ·rw [if_pos c1] at h; have c1b0 : decide (1048576 < (a1.size : Int)) = true := decide_eq_true c1; have c1b1 : decide (1048576 < a1.size) = true := decide_eq_true u7_; clear c1; obtain rfl := si_ h; go_enter Tryz.func8, Tryz.ntmps8
  go_wp2_with (first | ((with_reducible refine gt_ 3 ?_); refine bx_ 3 #[.slice A0_0 l0_0.length c0_0, .slice A0_1 l0_1.length c0_1, .slice A0_2 l0_2.length c0_2, .int .i64 a0_3] 56 ?_; intro g3 hg w1 hbox hb; replace HB := bs_ HB hb; clear hb hbox hg))
  go_ret
  exact ⟨rfl, HB.out⟩
 rw [if_neg c1] at h; have c1b0 : decide (1048576 < (a1.size : Int)) = false := decide_eq_false c1; have c1b1 : decide (1048576 < a1.size) = false := decide_eq_false u7_; clear c1; by_cases c2 : (a2.size : Int) > 1048576
 ·rw [if_pos c2] at h; have c2b0 : decide (1048576 < (a2.size : Int)) = true := decide_eq_true c2; have c2b1 : decide (1048576 < a2.size) = true := decide_eq_true u7_; clear c2; obtain rfl := si_ h; go_enter Tryz.func8, Tryz.ntmps8
  go_wp2_with (first | ((with_reducible refine gt_ 3 ?_); refine bx_ 3 #[.slice A0_0 l0_0.length c0_0, .slice A0_1 l0_1.length c0_1, .slice A0_2 l0_2.length c0_2, .int .i64 a0_3] 56 ?_; intro g3 hg w1 hbox hb; replace HB := bs_ HB hb; clear hb hbox hg))
  go_ret
  exact ⟨rfl, HB.out⟩
 rw [if_neg c2] at h; have c2b0 : decide (1048576 < (a2.size : Int)) = false := decide_eq_false c2; have c2b1 : decide (1048576 < a2.size) = false := decide_eq_false u7_; clear c2; obtain ⟨t, A1, h⟩ := bi_ h; by_cases c3 : t < 0
 ·rw [if_pos c3] at h; have c3b0 := decide_eq_true c3; clear c3; obtain rfl := si_ h; go_enter Tryz.func8, Tryz.ntmps8
  go_wp2_with (first | ((with_reducible refine gt_ 3 ?_); refine bx_ 3 #[.slice A0_0 l0_0.length c0_0, .slice A0_1 l0_1.length c0_1, .slice A0_2 l0_2.length c0_2, .int .i64 a0_3] 56 ?_; intro g3 hg w1 hbox hb; replace HB := bs_ HB hb; obtain ⟨z0, z1, z2, z3, y0, y1, y2, y3⟩ := cu hbox; clear hb hbox hg) | ((with_reducible refine gt_ 23 ?_); refine gB_ 23 Tryz.func23 (dx.calls k _ _ l0_0 _ _ l0_1 _ _ l0_2 a0_3 1048576 t _ (kc_ HR0_0 HB) HC0_0.out (kc_ HR0_1 HB) HC0_1.out (kc_ HR0_2 HB) HC0_2.out A1.out) ?_; intro w2 hb; replace HB := bs_ HB hb; clear hb))
  go_ret
  exact ⟨rfl, HB.out⟩
 rw [if_neg c3] at h; have c3b0 := decide_eq_false c3; clear c3; obtain ⟨⟨f1, r1, e1, n1⟩, A2, h⟩ := bi_ h; dsimp only at h; obtain ⟨p, A3, h⟩ := bi_ h; obtain ⟨g, A4, h⟩ := bi_ h; obtain ⟨q1, A5, h⟩ := bi_ h; obtain ⟨q2, A6, h⟩ := bi_ h; obtain ⟨m, A7, h⟩ := bi_ h; obtain ⟨⟨m1, gm⟩, A9, h⟩ := bi_ h; dsimp only at h; obtain ⟨q, A8, h⟩ := bi_ h; obtain ⟨⟨rfl, rfl, hm, hq, hqe⟩, h2⟩ := gn_ h; obtain rfl := si_ h2; clear h h2; have c4b0 : decide (m < 0) = false := decide_eq_false u7_; clear hm; go_enter Tryz.func8, Tryz.ntmps8
 go_upto_region 9 with (first | ((with_reducible refine gt_ 3 ?_); refine bx_ 3 #[.slice A0_0 l0_0.length c0_0, .slice A0_1 l0_1.length c0_1, .slice A0_2 l0_2.length c0_2, .int .i64 a0_3] 56 ?_; intro g3 hg w1 hbox hb; have BK := am_ hbox; have H1 := am_ (Below.refl w1.heap.size w1); replace HB := bs_ HB hb; obtain ⟨z0, z1, z2, z3, y0, y1, y2, y3⟩ := cu hbox; clear hb hbox hg) | ((with_reducible refine gt_ 23 ?_); refine gB_ 23 Tryz.func23 (dx.calls k _ _ l0_0 _ _ l0_1 _ _ l0_2 a0_3 1048576 t _ (kc_ HR0_0 HB) HC0_0.out (kc_ HR0_1 HB) HC0_1.out (kc_ HR0_2 HB) HC0_2.out A1.out) ?_; intro w2 hb; replace HB := bs_ HB hb; replace H1 := bs_ H1 hb; clear z0 z1 z2 z3 y0 y1 y2 y3 hb))
 obtain ⟨z0, z1, z2, z3, y0, y1, y2, y3⟩ := cu (aU BK.out H1.out); go_upto_region 10 with (first | ((with_reducible refine gt_ 27 ?_); refine gf_ 27 Tryz.func24 (di.calls k _ _ l0_0 _ _ l0_1 _ _ l0_2 a0_3 f1 r1 e1 n1 _ (kc_ HR0_0 HB) HC0_0.out (kc_ HR0_1 HB) HC0_1.out (kc_ HR0_2 HB) HC0_2.out A2.out) ?_; rintro e w3 ⟨v0, v1, v2, rfl, ho0, ho1, ho2, hb⟩; refine ⟨_, rfl, ?_⟩; obtain ⟨X0, d0, rfl⟩ := Kd.R_slice ho0; obtain ⟨X1, d1, rfl⟩ := Kd.S_slice ho1; obtain ⟨X2, d2, rfl⟩ := Kd.R_slice ho2; have HX0 := am_ ho0; have HX1 := am_ ho1; have HX2 := am_ ho2; have HX := am_ (Below.refl w3.heap.size w3); replace HB := bs_ HB hb; replace H1 := bs_ H1 hb; clear z0 z1 z2 z3 y0 y1 y2 y3 hb ho0 ho1 ho2) | ((with_reducible refine gt_ 30 ?_); refine gf_ 30 Tryz.func12 (ba.calls k _ _ f1 _ _ r1 _ _ e1 n1 a1 a2 p _ (kQ_ HX0 HX).1 (kQ_ HX0 HX).2 (kP_ HX1 HX).1 (kP_ HX1 HX).2 (kQ_ HX2 HX).1 (kQ_ HX2 HX).2 A3.out) ?_; rintro e w4 ⟨v0, rfl, ho0, hb⟩; refine ⟨_, rfl, ?_⟩; obtain ⟨AP, cP, rfl⟩ := Kd.R_slice ho0; have HP := am_ ho0; have HQ := am_ (Below.refl w4.heap.size w4); replace HB := bs_ HB hb; replace H1 := bs_ H1 hb; have HB4 := HB; have H14 := H1; clear hb ho0 HX0 HX1 HX2 HX))
 obtain ⟨z0, z1, z2, z3, y0, y1, y2, y3⟩ := cu (aU BK.out H1.out); go_upto_region 11 with (first | ((with_reducible refine gt_ 32 ?_); refine gf_ 32 Tryz.func24 (di.calls k _ _ l0_0 _ _ l0_1 _ _ l0_2 a0_3 f1 r1 e1 n1 _ (kc_ HR0_0 HB) HC0_0.out (kc_ HR0_1 HB) HC0_1.out (kc_ HR0_2 HB) HC0_2.out A2.out) ?_; rintro e w5 ⟨v0, v1, v2, rfl, ho0, ho1, ho2, hb⟩; refine ⟨_, rfl, ?_⟩; obtain ⟨X0, d0, rfl⟩ := Kd.R_slice ho0; obtain ⟨X1, d1, rfl⟩ := Kd.S_slice ho1; obtain ⟨X2, d2, rfl⟩ := Kd.R_slice ho2; have HX0 := am_ ho0; have HX1 := am_ ho1; have HX2 := am_ ho2; have HX := am_ (Below.refl w5.heap.size w5); replace HB := bs_ HB hb; replace H1 := bs_ H1 hb; replace HQ := bs_ HQ hb; have HB5 := HB; have H15 := H1; have HQ5 := HQ; clear z0 z1 z2 z3 y0 y1 y2 y3 hb ho0 ho1 ho2) | ((with_reducible refine gt_ 9 ?_); refine bx_ 9 #[.slice none 0 0, .slice none 0 0, .slice none 0 0, .int .i64 0] 27 ?_; intro g9 hg w6 hbox hb; have BX := am_ hbox; have HG9 := am_ hg; replace HX := bs_ HX hb; obtain ⟨z0, z1, z2, z3, y0, y1, y2, y3⟩ := cu hbox; clear hb hbox hg))
 have hge : w5.heap.size ≤ g9 := by rw [HG9.out]; exact Nat.le_refl _
 have HX' := am_ (st4_ (u0 := .slice X0 f1.length d0) (u1 := .slice X1 r1.length d1) (u2 := .slice X2 e1.length d2) (u3 := .int .i64 n1) HX.out hge); have BX' := am_ (bk9_ (u0 := .slice X0 f1.length d0) (u1 := .slice X1 r1.length d1) (u2 := .slice X2 e1.length d2) (u3 := .int .i64 n1) BX.out); clear HX BX z0 z1 z2 z3 y0 y1 y2 y3 hge HG9; have HX := HX'; have BX := BX'; clear HX' BX'; generalize ((((w6.setCell ⟨g9, 0, none⟩ (.slice X0 f1.length d0)).setCell ⟨g9, 1, none⟩ (.slice X1 r1.length d1)).setCell ⟨g9, 2, none⟩ (.slice X2 e1.length d2)).setCell ⟨g9, 3, none⟩ (.int .i64 n1)) = w7 at HX BX ⊢; obtain ⟨z0, z1, z2, z3, y0, y1, y2, y3⟩ := cu BX.out; go_upto_region 14 with (first | ((with_reducible refine gt_ 36 ?_); refine gf_ 36 Tryz.func10 (aT.calls k _ _ f1 _ _ r1 _ _ e1 n1 a1 a2 g _ (StopsIn.below HG_.out (fk HB HX).out) (kQ_ HX0 HX).1 (kQ_ HX0 HX).2 (kP_ HX1 HX).1 (kP_ HX1 HX).2 (kQ_ HX2 HX).1 (kQ_ HX2 HX).2 A4.out) ?_; rintro e w8 ⟨v0, rfl, ho0, hb⟩; refine ⟨_, rfl, ?_⟩; obtain ⟨AG, cG, rfl⟩ := Kd.R_slice ho0; have HGo := am_ (Kd.R_lower ho0 HX.out.size); have HGg := am_ (Below.refl w8.heap.size w8); have H9 := am_ hb; replace HX := bs_ HX hb; clear z0 z1 z2 z3 y0 y1 y2 y3 hb ho0) | ((with_reducible refine gt_ 39 ?_); refine gB_ 39 Tryz.func36 (gL k _ _ g _ _ p true _ (kQ_ HGo HGg).1 (kQ_ HGo HGg).2 (kQ_ HP (fk HQ HX)).1 (kQ_ HP (fk HQ HX)).2 A5.out) ?_; intro w9 hb; replace HX := bs_ HX hb; replace HGg := bs_ HGg hb; replace H9 := bs_ H9 hb; clear hb))
 replace HX := am_ (aQ HX.out); replace HGg := am_ (aQ HGg.out); replace H9 := am_ (aQ H9.out); obtain ⟨z0, z1, z2, z3, -⟩ := cu (aU BX.out H9.out); obtain ⟨y0, y1, y2, y3, -⟩ := cu (aU BK.out (fk H1 HX).out); refine dk (n := 5) (S := fun w' => w'.cell? ⟨g9, 0, none⟩ = some (.slice X0 f1.length d0) ∧ w'.cell? ⟨g9, 1, none⟩ = some (.slice X1 r1.length d1) ∧ w'.cell? ⟨g9, 2, none⟩ = some (.slice X2 e1.length d2) ∧ w'.cell? ⟨g9, 3, none⟩ = some (.int .i64 n1) ∧ w'.cell? ⟨g3, 0, none⟩ = some (.slice A0_0 l0_0.length c0_0) ∧ w'.cell? ⟨g3, 1, none⟩ = some (.slice A0_1 l0_1.length c0_1) ∧ w'.cell? ⟨g3, 2, none⟩ = some (.slice A0_2 l0_2.length c0_2) ∧ w'.cell? ⟨g3, 3, none⟩ = some (.int .i64 a0_3)) (ds := []) (bm_ 5 0) b9 rfl rfl ⟨z0, z1, z2, z3, y0, y1, y2, y3⟩ (fun hHeld => ?_); clear z0 z1 z2 z3 y0 y1 y2 y3; generalize w9.drew = w10 at HX HGg H9 hHeld ⊢; refine take_ (i := 0) (N := some 41) (v := ?_) (a' := ?_) (bm_ 5 1) rfl rfl b9 (fun _ _ _ h => h) (Or.inl ⟨cI, ?_⟩) hHeld ?_ ?_; rotate_left
 ·rintro w' ⟨s0, s1, s2, s3, s4, s5, s6, s7⟩; go_simp; with_reducible rfl
 rotate_left
 ·exact m3
 refine take_ (i := 1) (N := some 42) (v := ?_) (a' := ?_) (bm_ 5 3) rfl rfl b9 (fun _ _ _ h => h) (Or.inl ⟨cI, ?_⟩) hHeld ?_ ?_; rotate_left
 ·rintro w' ⟨s0, s1, s2, s3, s4, s5, s6, s7⟩; go_simp; with_reducible rfl
 rotate_left
 ·exact m3
 refine one_ (i := 2) (N := some 43) (bm_ 5 7) rfl rfl b9 bs (fun K hK => ?_); refine go_ Tryz.func24 (di.calls k _ _ l0_0 _ _ l0_1 _ _ l0_2 a0_3 f1 r1 e1 n1 _ (kc_ HR0_0 (fk HB HX)) HC0_0.out (kc_ HR0_1 (fk HB HX)) HC0_1.out (kc_ HR0_2 (fk HB HX)) HC0_2.out A2.out) ?_; rintro e w11 ⟨v0, v1, v2, rfl, ho0, ho1, ho2, hb⟩; refine ⟨_, rfl, ?_⟩; obtain ⟨Y0, i0, rfl⟩ := Kd.R_slice ho0; obtain ⟨Y1, i1, rfl⟩ := Kd.S_slice ho1; obtain ⟨Y2, i2, rfl⟩ := Kd.R_slice ho2; have HY0 := am_ ho0; have HY1 := am_ ho1; have HY2 := am_ ho2; have HY := am_ (Below.refl w11.heap.size w11); replace HX := bs_ HX hb; replace HGg := bs_ HGg hb; replace H9 := bs_ H9 hb; clear ho0 ho1 ho2 hb hHeld; obtain ⟨z0, z1, z2, z3, -⟩ := cu (aU BX.out H9.out); obtain ⟨y0, y1, y2, y3, -⟩ := cu (aU BK.out (fk H1 HX).out); refine hK.out _ _ ⟨z0, z1, z2, z3, y0, y1, y2, y3⟩ (fun hHeld => ?_); clear hK K z0 z1 z2 z3 y0 y1 y2 y3; refine nm_ ?_; refine one_ (i := 3) (N := some 44) (bm_ 5 15) rfl rfl b9 bs (fun K hK => ?_); refine oB_ Tryz.func26 (dL.calls k _ _ f1 _ _ r1 _ _ e1 n1 _ _ f1 _ _ r1 _ _ e1 n1 true _ (kQ_ HX0 HX).1 (kQ_ HX0 HX).2 (kP_ HX1 HX).1 (kP_ HX1 HX).2 (kQ_ HX2 HX).1 (kQ_ HX2 HX).2 (kQ_ HY0 HY).1 (kQ_ HY0 HY).2 (kP_ HY1 HY).1 (kP_ HY1 HY).2 (kQ_ HY2 HY).1 (kQ_ HY2 HY).2 A6.out) ?_; intro w12 hb; replace HX := bs_ HX hb; replace HGg := bs_ HGg hb; replace H9 := bs_ H9 hb; clear hb hHeld HY0 HY1 HY2 HY; obtain ⟨z0, z1, z2, z3, -⟩ := cu (aU BX.out H9.out); obtain ⟨y0, y1, y2, y3, -⟩ := cu (aU BK.out (fk H1 HX).out); refine hK.out _ _ ⟨z0, z1, z2, z3, y0, y1, y2, y3⟩ (fun hHeld => ?_); clear hK K z0 z1 z2 z3 y0 y1 y2 y3 hHeld; refine nm_ ?_; refine jJ (i := 4) (N := some 45) (v := ?_) (a' := ?_) (bm_ 5 31) rfl rfl b9 (fun _ _ _ h => h) (Or.inl ⟨cI, ?_⟩) ?_ ?_; rotate_left
 ·exact u63_
 rotate_left
 ·exact m3
 refine qR b9 ?_; obtain ⟨z0, z1, z2, z3, y0, y1, y2, y3⟩ := cu (aU BX.out H9.out); go_upto_region 18 with (first | ((with_reducible refine gt_ 48 ?_); refine gf_ 48 Tryz.func30 (dF.calls k (fun k_ => k_ < w5.heap.size) _ _ _ f1 r1 e1 n1 1 m w4 _ (fk HQ HX).out (px_ HX0.out HX) (px_ (Kd.S_R HX1.out) HX) (px_ HX2.out HX) A7.out) ?_; rintro e w13 ⟨rfl, hb, hk⟩; refine ⟨_, rfl, ?_⟩; have HG2 := am_ (keepR_ HGo HGg hk); replace HB := fk HB4 ⟨hb⟩; replace H1 := fk H14 ⟨hb⟩; replace HQ := am_ hb; have HS5 := am_ (Nat.le_trans HX.out.size hk.1); clear HX HX0 HX1 HX2 HGo HGg H9 BX z0 z1 z2 z3 y0 y1 y2 y3 hb hk; have HGo := HG2; have HGg := am_ (Below.refl w13.heap.size w13); clear HG2))
 go_upto_region 21 with (first | (go_at_call 36; (with_reducible refine (gL k _ _ g _ _ p true _ (kQ_ HGo HGg).1 (kQ_ HGo HGg).2 (kQ_ HP HQ).1 (kQ_ HP HQ).2 A5.out).mono ?_); rintro e w14 ⟨rfl, hb⟩; replace HB := bs_ HB hb; replace H1 := bs_ H1 hb; replace HQ := bs_ HQ hb; replace HGg := bs_ HGg hb; replace HS5 := am_ (Nat.le_trans HS5.out hb.size); clear hb))
 have c5b0 : decide (q < 0) = false := decide_eq_false u7_; have c6b0 := cO hqe; clear hq hqe; have L0 : w.heap.size ≤ w5.heap.size := HB5.out.size; have L1 : w1.heap.size ≤ w5.heap.size := H15.out.size; have L4 : w4.heap.size ≤ w5.heap.size := HQ5.out.size; have LL := am_ (And.intro L0 (And.intro L1 L4)); clear L0 L1 L4; go_upto_region 28 with (first | ((with_reducible refine gt_ 59 ?_); refine gf_ 59 Tryz.func37 (bq.calls k (fun k_ => w5.heap.size ≤ k_) (.slice AG g.length cG) g 1 m1 gm w _ HB.out (Kd.R_lower (Kd.R_mono (Kd.R_bound (Kd.R_below HGo.out HGg.out)) (fun _ h_ => h_.2.1)) LL.out.1) A9.out) ?_; rintro e w15 ⟨rfl, ho0, hb, hk⟩; refine ⟨_, rfl, ?_⟩; have BK2 := am_ (e6 (aU BK.out H1.out) hk (Nat.not_le.2 (Nat.lt_of_lt_of_le (dO BK.out) LL.out.2.1))); have HP2 := am_ (keepP_ HP HQ hk LL.out.2.2); clear HGo HGg BK H1 HP HQ HB; have HGo := am_ ho0; have HGl := am_ (Kd.R_reads' ho0).1.symm; have HGg := am_ (Below.refl w15.heap.size w15); have BK := BK2; have HP := HP2; have HB := am_ hb; have H1 := HGg; have HQ := HGg; clear BK2 HP2 ho0 hb hk) | ((with_reducible refine gt_ 62 ?_); refine gB_ 62 Tryz.func38 (ig k AG g.length cG gm 1 q _ HGl.out (kQ_ HGo HGg) A8.out) ?_; intro w16 hb; replace HB := bs_ HB hb; replace H1 := bs_ H1 hb; replace HQ := bs_ HQ hb; replace HGg := bs_ HGg hb; clear hb))
 obtain ⟨z0, z1, z2, z3, y0, y1, y2, y3⟩ := cu (aU BK.out H1.out); go_wp2_with (first | ((with_reducible refine gt_ 69 ?_); refine gf_ 69 Tryz.func24 (di.calls k _ _ l0_0 _ _ l0_1 _ _ l0_2 a0_3 f1 r1 e1 n1 _ (kc_ HR0_0 HB) HC0_0.out (kc_ HR0_1 HB) HC0_1.out (kc_ HR0_2 HB) HC0_2.out A2.out) ?_; rintro e w17 ⟨v0, v1, v2, rfl, ho0, ho1, ho2, hb⟩; refine ⟨_, rfl, ?_⟩; obtain ⟨Y0, i0, rfl⟩ := Kd.R_slice ho0; obtain ⟨Y1, i1, rfl⟩ := Kd.S_slice ho1; obtain ⟨Y2, i2, rfl⟩ := Kd.R_slice ho2; have HY0 := am_ ho0; have HY1 := am_ ho1; have HY2 := am_ ho2; have HY := am_ (Below.refl w17.heap.size w17); replace HB := bs_ HB hb; replace HQ := bs_ HQ hb; replace HGg := bs_ HGg hb; clear z0 z1 z2 z3 y0 y1 y2 y3 ho0 ho1 ho2 hb) | ((with_reducible refine gt_ 72 ?_); refine gf_ 72 Tryz.func10 (aT.calls k _ _ f1 _ _ r1 _ _ e1 n1 a1 a2 g _ (StopsIn.below HG_.out HB.out) (kQ_ HY0 HY).1 (kQ_ HY0 HY).2 (kP_ HY1 HY).1 (kP_ HY1 HY).2 (kQ_ HY2 HY).1 (kQ_ HY2 HY).2 A4.out) ?_; rintro e w18 ⟨v0, rfl, ho0, hb⟩; refine ⟨_, rfl, ?_⟩; obtain ⟨AH, cH, rfl⟩ := Kd.R_slice ho0; have HZ := am_ ho0; have HZz := am_ (Below.refl w18.heap.size w18); replace HB := bs_ HB hb; replace HQ := bs_ HQ hb; replace HGg := bs_ HGg hb; clear ho0 hb HY0 HY1 HY2 HY) | ((with_reducible refine gt_ 75 ?_); refine gB_ 75 Tryz.func36 (gL k _ _ g _ _ p true _ (kQ_ HZ HZz).1 (kQ_ HZ HZz).2 (kQ_ HP HQ).1 (kQ_ HP HQ).2 A5.out) ?_; intro w19 hb; replace HB := bs_ HB hb; replace HGg := bs_ HGg hb; clear hb) | ((with_reducible refine gt_ 79 ?_); refine gB_ 79 Tryz.func38 (ig k AG g.length cG gm 1 q _ HGl.out (kQ_ HGo HGg) A8.out) ?_; intro w20 hb; replace HB := bs_ HB hb; clear hb))
 go_ret
 exact ⟨rfl, HB.out⟩
end
end Go.Proofs.YtnjjdojonflckaaGreatDoor.PFnExactIndexTerms
