/- Contracts of Go functions that the law FnExactDocTags reaches: each is told as a plain Lean function, with the walk that shows it; no condition beyond what each states. Written by a program of this session round the kit's printer. -/
import Derived.Test.YtelcdhjdlgedeaaGreatDoorVPFnExactDocTagsx0
import Derived.Test.YtelcdhjdlgedeaaGreatDoorVPFnExactDocTagsx7
import Derived.Test.YtelcdhjdlgedeaaGreatDoorVPFnExactDocTagsx8
namespace Go.Proofs.YtelcdhjdlgedeaaGreatDoor.PFnExactDocTags
open Go.RowKit Go.Proofs.YtelcdhjdlgedeaaGreatDoorW.PrintWords Go.Proofs.YtelcdhjdlgedeaaGreatDoorW.PrintLast Go.Proofs.YtelcdhjdlgedeaaGreatDoorW.PrintMore
attribute [local go_sem] run_str_geq run_str_leq max2_int min2_int max_two min_two max_three min_three max_four min_four   -- for this text's walks alone
set_option linter.unusedVariables false
set_option linter.unusedSimpArgs false

/-! ### strconv_Itoa: function 88 -/
def strconv_Itoa.f (a0 : Int) : Option ByteArray := if -9223372036854775808 ≤ a0 ∧ a0 ≤ 9223372036854775807 then some ⟨(Lib.itoa a0).toArray⟩ else none
theorem strconv_Itoa.below (w : World) (k : Nat) (os : Array Obj) : Below w.heap.size w (Go.Sort.grow (w.drewN k) os) :=
 ⟨rfl, rfl, rfl, by rw [Go.Sort.size_grow]; exact Nat.le_add_right _ _, fun i hi => Go.Sort.heap_grow_old (w.drewN k) os hi⟩
theorem strconv_Itoa.calls (a0 : Int) (r : ByteArray) (w : World) (hG : StopsIn w) (h : strconv_Itoa.f a0 = some r) :
  Calls Tryz.prog 88 #[.int .i64 a0] w fun e w' => e = .returned (.string r) ∧ Below w.heap.size w w' := by
 unfold strconv_Itoa.f at h
 by_cases hs : -9223372036854775808 ≤ a0 ∧ a0 ≤ 9223372036854775807
 case neg => rw [if_neg hs] at h; exact absurd h u91_
 rw [if_pos hs] at h; have h := Option.some.inj h; subst h; refine (Go.Proofs.Tryz.strconv_Itoa a0 hs.1 hs.2 w hG.tab).mono ?_; rintro e w' ⟨rfl, k, os, rfl⟩; exact ⟨rfl, strconv_Itoa.below w k os⟩

/-! ### impl_number: function 61 -/
/-- The number that a text is. -/
def impl_number.v (s : ByteArray) : Int × Bool := match Lib.atoiAll s.data.toList with
 | .ok n => if -999999999 ≤ n ∧ n ≤ 999999999 ∧ Lib.itoa n = s.data.toList then (n, true) else (0, false)
 | _ => (0, false)
def impl_number.f (a0 : ByteArray) : Option (Int × Bool) := if a0.size ≤ 140737488355328 then some (impl_number.v a0) else none
theorem impl_number.atoi_ok (s : ByteArray) (hs : s.size ≤ 140737488355328) (n : Int) (h : Lib.atoiAll s.data.toList = .ok n) (w : World) :
  Calls Tryz.prog 87 #[.string s] w fun e w' => e = .returned (.tuple #[.int .i64 n, .nilIface]) ∧ Below w.heap.size w w' := by
 refine (Go.Proofs.Tryz.strconv_Atoi_ok s u110_ n h w).mono ?_; rintro e w' ⟨rfl, h1⟩; rcases h1 with rfl | ⟨t, rfl⟩
 ·exact ⟨rfl, Below.refl _ _⟩
 ·exact ⟨rfl, bytes_below (Below.refl _ _) (Nat.le_refl _) _ _⟩
theorem impl_number.atoi_no (s : ByteArray) (hs : s.size ≤ 140737488355328) (h : ∀ n, Lib.atoiAll s.data.toList ≠ .ok n) (w : World) (hG : StopsIn w) :
  Calls Tryz.prog 87 #[.string s] w fun e w' => ∃ n t p, e = .returned (.tuple #[.int .i64 n, .iface t p]) ∧ Below w.heap.size w w' := by
 obtain ⟨⟨u1, v1, h1⟩, ⟨u2, v2, h2⟩⟩ := hG.errs; rcases hA : Lib.atoiAll s.data.toList with n | _ | _
 ·exact absurd hA (h n)
 ·refine (Go.Proofs.Tryz.strconv_Atoi_syntax_var s u110_ hA u1 v1 w h1).mono ?_; rintro e w' ⟨N, rfl, _, _, hb⟩; exact ⟨_, _, _, rfl, hb⟩
 ·refine (Go.Proofs.Tryz.strconv_Atoi_range_var s u110_ hA u2 v2 w h2).mono ?_; rintro e w' ⟨N, rfl, _, _, hb⟩; exact ⟨_, _, _, rfl, hb⟩
theorem impl_number.calls (a0 : ByteArray) (r1 : Int) (r2 : Bool) (w : World) (hG : StopsIn w) (h : impl_number.f a0 = some (r1, r2)) :
  Calls Tryz.prog 61 #[.string a0] w fun e w' => e = .returned (.tuple #[.int .i64 r1, .bool r2]) ∧ Below w.heap.size w w' := by
 unfold impl_number.f at h
 by_cases hs : a0.size ≤ 140737488355328
 case neg => rw [if_neg hs] at h; exact absurd h u91_
 rw [if_pos hs] at h; have h := Option.some.inj h; have hG := am_ hG; rcases hA : Lib.atoiAll a0.data.toList with n | _ | _
 ·have hbd := Lib.atoiAll_bounds hA; have hok := impl_number.atoi_ok a0 hs n hA; have hit : Aside0 (strconv_Itoa.f n = some ⟨(Lib.itoa n).toArray⟩) := ⟨if_pos hbd⟩; unfold impl_number.v at h
  rw [hA] at h; clear hA; by_cases hw : -999999999 ≤ n ∧ n ≤ 999999999
  ·have hwi : Aside0 (impl_within.f n (-999999999) 999999999 = some true) := ⟨by unfold impl_within.f; rw [if_pos (show n ≥ -999999999 from hw.1), decide_eq_true hw.2]⟩; by_cases he : Lib.itoa n = a0.data.toList
   ·have heq : (⟨(Lib.itoa n).toArray⟩ : ByteArray) = a0 := by rw [he]
    have h2 : (n, true) = (r1, r2) := by rw [← h]; simp only [if_pos (show -999999999 ≤ n ∧ n ≤ 999999999 ∧ Lib.itoa n = a0.data.toList from ⟨hw.1, hw.2, he⟩)]
    obtain ⟨rfl, rfl⟩ := Prod.mk.inj h2; rw [heq] at hit; clear h h2 he heq hw hbd; go_enter Tryz.func61, Tryz.ntmps61
    go_wp2_with (first | (go_at_call 87; refine (hok _).mono ?_; rintro e w1 ⟨rfl, hb1⟩) | (go_at_call 30; refine (impl_within.calls _ _ _ _ _ hwi.out).mono ?_; rintro e w2 ⟨rfl, ⟨⟨q, rfl⟩⟩⟩) | (go_at_call 88; refine (strconv_Itoa.calls _ _ _ (StopsIn.below hG.out (pw_below_drewN hb1 q)) hit.out).mono ?_; rintro e w3 ⟨rfl, hb3⟩))
    go_ret2
    exact ⟨rfl, below_then (pw_below_drewN hb1 q) hb1.size hb3⟩
   ·have heq : ¬ (⟨(Lib.itoa n).toArray⟩ : ByteArray).toList = a0.toList := fun e => he (by rw [ByteArray.toList_eq, ByteArray.toList_eq] at e; simpa using e)
    have h2 : (0, false) = (r1, r2) := by rw [← h]; simp only [if_neg (show ¬ (-999999999 ≤ n ∧ n ≤ 999999999 ∧ Lib.itoa n = a0.data.toList) from fun hh => he hh.2.2)]
    obtain ⟨rfl, rfl⟩ := Prod.mk.inj h2; obtain ⟨y, hy⟩ : ∃ y : ByteArray, (⟨(Lib.itoa n).toArray⟩ : ByteArray) = y := ⟨_, rfl⟩; rw [hy] at hit heq; have hb0 : (y.toList != a0.toList) = true := by simpa using heq
    have hb1_ : (y.toList == a0.toList) = false := by simpa using heq
    clear h h2 he hw hbd hy; go_enter Tryz.func61, Tryz.ntmps61
    go_wp2_with (first | (go_at_call 87; refine (hok _).mono ?_; rintro e w1 ⟨rfl, hb1⟩) | (go_at_call 30; refine (impl_within.calls _ _ _ _ _ hwi.out).mono ?_; rintro e w2 ⟨rfl, ⟨⟨q, rfl⟩⟩⟩) | (go_at_call 88; refine (strconv_Itoa.calls _ _ _ (StopsIn.below hG.out (pw_below_drewN hb1 q)) hit.out).mono ?_; rintro e w3 ⟨rfl, hb3⟩))
    go_ret2
    exact ⟨rfl, below_then (pw_below_drewN hb1 q) hb1.size hb3⟩
  ·have hwi : Aside0 (impl_within.f n (-999999999) 999999999 = some false) := ⟨by
    unfold impl_within.f
    by_cases h1 : n ≥ -999999999
    ·rw [if_pos h1, decide_eq_false u110_]
    ·rw [if_neg h1]⟩
   have h2 : (0, false) = (r1, r2) := by rw [← h]; simp only [if_neg (show ¬ (-999999999 ≤ n ∧ n ≤ 999999999 ∧ Lib.itoa n = a0.data.toList) from fun hh => hw ⟨hh.1, hh.2.1⟩)]
   obtain ⟨rfl, rfl⟩ := Prod.mk.inj h2; clear h h2 hw hbd; go_enter Tryz.func61, Tryz.ntmps61
   go_wp2_with (first | (go_at_call 87; refine (hok _).mono ?_; rintro e w1 ⟨rfl, hb1⟩) | (go_at_call 30; refine (impl_within.calls _ _ _ _ _ hwi.out).mono ?_; rintro e w2 ⟨rfl, ⟨⟨q, rfl⟩⟩⟩) | (go_at_call 88; refine (strconv_Itoa.calls _ _ _ (StopsIn.below hG.out (pw_below_drewN hb1 q)) hit.out).mono ?_; rintro e w3 ⟨rfl, hb3⟩))
   go_ret2
   exact ⟨rfl, pw_below_drewN hb1 q⟩
 ·have hno := impl_number.atoi_no a0 hs (fun n e => by rw [hA] at e; cases e); have h2 : (0, false) = (r1, r2) := by rw [← h]; unfold impl_number.v; rw [hA]
  obtain ⟨rfl, rfl⟩ := Prod.mk.inj h2; clear h h2 hA; go_enter Tryz.func61, Tryz.ntmps61
  go_wp2_with (first | (go_at_call 87; refine (hno _ hG.out).mono ?_; rintro e w1 ⟨n, t, p, rfl, hb1⟩))
  go_ret2
  exact ⟨rfl, hb1⟩
 ·have hno := impl_number.atoi_no a0 hs (fun n e => by rw [hA] at e; cases e); have h2 : (0, false) = (r1, r2) := by rw [← h]; unfold impl_number.v; rw [hA]
  obtain ⟨rfl, rfl⟩ := Prod.mk.inj h2; clear h h2 hA; go_enter Tryz.func61, Tryz.ntmps61
  go_wp2_with (first | (go_at_call 87; refine (hno _ hG.out).mono ?_; rintro e w1 ⟨n, t, p, rfl, hb1⟩))
  go_ret2
  exact ⟨rfl, hb1⟩

/-! ### strings_Split: function 80 -/
def strings_Split.f (a0 a1 : ByteArray) : Option (List ByteArray) := if a0.size < 4294967281 ∧ 1 ≤ a1.size then some (Lib.splitB a1 0 (Lib.countB a0 a1) a0) else none
theorem strings_Split.calls (a0 a1 : ByteArray) (r : List ByteArray) (w : World) (hG : StopsIn w) (h : strings_Split.f a0 a1 = some r) :
  Calls Tryz.prog 80 #[.string a0, .string a1] w fun e w' => ∃ v0_ : Value, e = .returned (v0_) ∧ Kd.R Kd.string 9 w' w.heap.size (fun _ => True) v0_ r ∧ Below w.heap.size w w' := by
 unfold strings_Split.f at h
 by_cases hs : a0.size < 4294967281 ∧ 1 ≤ a1.size
 case neg => rw [if_neg hs] at h; exact absurd h u91_
 rw [if_pos hs] at h; have h := Option.some.inj h; obtain ⟨m, hm⟩ := hG.max; have hle := Lib.countB_le a1 hs.2 a0.size a0 (Nat.le_refl _); have hlen := Lib.splitB_all a1 hs.2 0 _ a0 rfl; rw [h] at hlen; refine (Go.Proofs.Tryz.strings_Split a0 a1 m w hs.1 hm hs.2).mono ?_; rintro e w' ⟨rfl, rfl⟩; rw [h]; refine ⟨_, rfl, ?_, below_alloc (Below.refl _ _) _⟩; have hh : (w.alloc (.cells (r.map Value.string).toArray 9)).heap[w.heap.size]? = some (.cells (r.map Value.string).toArray 9 (0, 0)) := by
  unfold World.alloc
  simp
 have hx := row_mk (enc := Value.string) (h1 := fun _ => rfl) (ok := fun _ => True) (xs := r) (cap := Lib.countB a0 a1 + 1) (Nat.le_refl _) hh u110_ (by have : maxLen = 9223372036854775807 := rfl; omega) (by simp [hlen]) trivial (fun j x hj => by simp [hj]); rw [hlen] at hx; exact hx

/-! ### impl_tagsOk: function 62 -/
def impl_tagsOk.l0 : Nat → List ByteArray → List ByteArray → Int → Int → Option (Bool)
 | 0, _, _, _, _ => none
 | k + 1, x3, x8, x9, x10 => if x10 < x9 then (if 0 ≤ x10 then (if x10 < (x8.length : Int) then ((impl_NameOk.f k (rdOf ByteArray.empty x8 x10)).bind fun t305 => (if t305 = true then (impl_tagsOk.l0 k x3 x8 x9 (wrap64 (x10 + 1))) else (some false))) else (none)) else (none)) else (some (decide ((x3.length : Int) ≤ 4)))
def impl_tagsOk.f (k : Nat) (a0 : ByteArray) : Option (Bool) := (strings_Split.f a0 (⟨#[44]⟩ : ByteArray)).bind fun t301 => (impl_tagsOk.l0 k t301 t301 (t301.length : Int) 0)
theorem impl_tagsOk.mono_l : ∀ k, (∀ y0 y1 y2 y3, LeO (impl_tagsOk.l0 k y0 y1 y2 y3) (impl_tagsOk.l0 (k + 1) y0 y1 y2 y3))
 | 0 => fun _ _ _ _ r h => by simp [impl_tagsOk.l0] at h
 | k + 1 => by
  have ih0 := impl_tagsOk.mono_l k
  ·intro y0 y1 y2 y3; unfold impl_tagsOk.l0
   repeat' first
   | (with_reducible exact ih0 _ _ _ _)
   | (with_reducible exact impl_NameOk.mono _ _)
   | (with_reducible exact LeO.refl _)
   | (with_reducible exact LeO.none _)
   | (with_reducible refine LeO.ite ?_ ?_)
   | (with_reducible refine LeO.bind ?_ (fun _ => ?_))
   | exact ih0 _ _ _ _
   | exact impl_NameOk.mono _ _
   | exact LeO.none _
   | refine LeO.ite ?_ ?_
   | refine LeO.bind ?_ (fun _ => ?_)
theorem impl_tagsOk.mono : ∀ a0 k, LeO (impl_tagsOk.f k a0) (impl_tagsOk.f (k + 1) a0) := by
 intro a0 k; have ih0 := impl_tagsOk.mono_l k; unfold impl_tagsOk.f
 repeat' first
   | (with_reducible exact ih0 _ _ _ _)
   | (with_reducible exact impl_NameOk.mono _ _)
   | (with_reducible exact LeO.refl _)
   | (with_reducible exact LeO.none _)
   | (with_reducible refine LeO.ite ?_ ?_)
   | (with_reducible refine LeO.bind ?_ (fun _ => ?_))
   | exact ih0 _ _ _ _
   | exact impl_NameOk.mono _ _
   | exact LeO.none _
   | refine LeO.ite ?_ ?_
   | refine LeO.bind ?_ (fun _ => ?_)
set_option maxHeartbeats 8000000 in
set_option maxRecDepth 100000 in
theorem impl_tagsOk.calls (k : Nat) (a0 : ByteArray) (r : Bool) (w : World) (hG : StopsIn w) (h : impl_tagsOk.f k a0 = some r) :
  Calls Tryz.prog 62 #[.string a0] w fun e w' => e = .returned (.bool r) ∧ Below w.heap.size w w' := by
 have HG_ := am_ hG; clear hG; have HB := am_ (Below.refl w.heap.size w); have H : ((strings_Split.f a0 (⟨#[44]⟩ : ByteArray)).bind fun t301 => (impl_tagsOk.l0 k t301 t301 (t301.length : Int) 0)) = some r := h; clear h; replace H := Option.bind_eq_some_iff.mp H; obtain ⟨t301, A20, H⟩ := H; replace H : (impl_tagsOk.l0 k t301 t301 (t301.length : Int) 0) = some r := H; have A2 := am_ A20; clear A20; have H' := am_ H; clear H; go_enter Tryz.func62, Tryz.ntmps62
 go_wp2_with (first | ((with_reducible refine gate_callee (f := 80) rfl ?_); refine goesL_ (some 7) rfl rfl Tryz.func80 u8_ rfl #[.string a0, .string (⟨#[44]⟩ : ByteArray)] rfl u2_ ?_; (with_reducible refine (strings_Split.calls a0 (⟨#[44]⟩ : ByteArray) t301 _ ?side1 A2.out).mono ?_); (case side1 => exact StopsIn.below HG_.out u0_); rintro e w3 ⟨v302, rfl, ho0, hb⟩; refine ⟨_, rfl, ?_⟩; have HO303 := am_ (Kd.R_lower ho0 (below_size u0_)); replace HB := am_ (below_step u0_ hb); (try clear hb); (try clear hb2); (try clear hk); (try clear hi); (try clear ho0); obtain ⟨Ao4, co4, eo4⟩ := Kd.R_slice HO303.out; subst eo4))
 go_loopg [10] k (fun kq v10 w' => ∃ (x10_1 : Int), v10 = .int .i64 x10_1 ∧ Aside0 (impl_tagsOk.l0 kq t301 t301 (t301.length : Int) x10_1 = some r) ∧ Aside0 (kq ≤ k) ∧ Aside0 (Kd.R Kd.string 9 w' w.heap.size (fun _ => True) (.slice Ao4 t301.length co4) t301) ∧ Aside0 (Kd.R Kd.string 9 w' w.heap.size (fun _ => True) (.slice Ao4 t301.length co4) t301) ∧ Aside0 (Below w.heap.size w w'))
 case atStart => exact ⟨(0), u15_, H', ⟨Nat.le_refl _⟩, ⟨u146_⟩, ⟨u146_⟩, ⟨u0_⟩⟩
 case round =>
  clear H'; try clear p2
  obtain ⟨x10_1, rfl, HA, HK1, HO_3, HO_8, HB⟩ := hrel; cases gk with
  | zero => exact absurd HA.out (by simp [impl_tagsOk.l0])
  | succ k1 =>
   have H := HA.out; clear HA; simp only [impl_tagsOk.l0] at H; by_cases c5 : x10_1 < (t301.length : Int)
   ·rw [if_pos c5] at H; have c5b0 : decide (x10_1 < (t301.length : Int)) = true := decide_eq_true c5; clear c5; by_cases c6 : 0 ≤ x10_1
    ·rw [if_pos c6] at H; have c6b0 : decide (0 ≤ x10_1) = true := decide_eq_true c6; clear c6; by_cases c7 : x10_1 < (t301.length : Int)
     ·rw [if_pos c7] at H; have c7b0 : decide (x10_1 < (t301.length : Int)) = true := decide_eq_true c7; clear c7; replace H := Option.bind_eq_some_iff.mp H; obtain ⟨t305, A80, H⟩ := H; replace H : (if t305 = true then (impl_tagsOk.l0 k1 t301 t301 (t301.length : Int) (wrap64 (x10_1 + 1))) else (some false)) = some r := H; have A8 := am_ A80; clear A80; by_cases c9 : t305 = true
      ·subst c9; have H1 : (impl_tagsOk.l0 k1 t301 t301 (t301.length : Int) (wrap64 (x10_1 + 1))) = some r := by rw [if_pos rfl] at H; exact H
       clear H; have H := H1; clear H1; have H' := am_ H; clear H; have p304 : 0 ≤ (x10_1 : Int) := of_decide_eq_true u4_; have q304 : x10_1 < (t301.length : Int) := of_decide_eq_true u4_; obtain ⟨ad304, e304, hx304_0⟩ := Kd.at_string (Kd.R_reads' HO_8.out).2.2 x10_1 p304 q304; cases e304; replace p304 := eq_true p304; replace q304 := eq_true q304; go_wp2_with (first | ((with_reducible refine gate_callee (f := 53) rfl ?_); refine goesL_ (some 15) rfl rfl Tryz.func53 u8_ rfl #[.string (rdOf ByteArray.empty t301 x10_1)] rfl u2_ ?_; (with_reducible refine (impl_NameOk.calls k1 (rdOf ByteArray.empty t301 x10_1) true _ A8.out).mono ?_); rintro e w' ⟨rfl, ⟨nd, rfl⟩⟩; refine ⟨_, rfl, ?_⟩))
       go_roundg k1
       case measure => have := HK1.out; omega
       case rel => exact ⟨(wrap64 (x10_1 + 1)), u15_, H', ⟨u70_⟩, ⟨u54_⟩, ⟨u28_⟩, ⟨u0_⟩⟩
      ·replace c9 := Bool.eq_false_iff.mpr c9; subst c9; have H1 : (some false) = some r := by rw [if_neg (show ¬ (false = true) by decide)] at H; exact H
       clear H; have H := H1; clear H1; obtain rfl := Option.some.inj H; have p304 : 0 ≤ (x10_1 : Int) := of_decide_eq_true u4_; have q304 : x10_1 < (t301.length : Int) := of_decide_eq_true u4_; obtain ⟨ad304, e304, hx304_0⟩ := Kd.at_string (Kd.R_reads' HO_8.out).2.2 x10_1 p304 q304; cases e304; replace p304 := eq_true p304; replace q304 := eq_true q304; go_wp2_with (first | ((with_reducible refine gate_callee (f := 53) rfl ?_); refine goesL_ (some 15) rfl rfl Tryz.func53 u8_ rfl #[.string (rdOf ByteArray.empty t301 x10_1)] rfl u2_ ?_; (with_reducible refine (impl_NameOk.calls k1 (rdOf ByteArray.empty t301 x10_1) false _ A8.out).mono ?_); rintro e w' ⟨rfl, ⟨nd, rfl⟩⟩; refine ⟨_, rfl, ?_⟩))
       go_ret
       exact ⟨u5_, u0_⟩
     ·exact u170_
    ·exact u168_
   ·rw [if_neg c5] at H; have c5b0 : decide (x10_1 < (t301.length : Int)) = false := decide_eq_false c5; clear c5; obtain rfl := Option.some.inj H; go_wp2; go_ret
    exact ⟨u5_, u0_⟩

/-! ### impl_DocOk: function 31 -/
theorem impl_DocOk.fld79_1 (x0 : ByteArray) (x1 : Int) (x2 : Int) (w : World) : (Instr.field 79 (Value.agg #[Value.string x0, Value.int .i64 x1, Value.int .i64 x2]) 1).run Tryz.prog w = .ok (Value.int .i64 x1) w := by kernel_rfl
attribute [local go_sem] impl_DocOk.fld79_1
mutual
def impl_DocOk.j0 : Nat → List (S79) → Bool → ByteArray → List (S96) → Option (Bool)
 | 0, _, _, _, _ => none
 | k + 1, x0, x16, x307000, x307001 => if x16 = true then (some false) else (impl_DocOk.l0 k x0 x307001 (x307001.length : Int) 0)
def impl_DocOk.l0 : Nat → List (S79) → List (S96) → Int → Int → Option (Bool)
 | 0, _, _, _, _ => none
 | k + 1, x0, x18, x19, x20 => if x20 < x19 then (if 0 ≤ x20 then (if x20 < (x18.length : Int) then ((impl_fieldOf.f k x0 ((rd_T96 x18 x20).f0)).bind fun bt311 => (if bt311.2.1 = 1 then (impl_DocOk.l0 k x0 x18 x19 (wrap64 (x20 + 1))) else (if bt311.2.1 = 2 then ((impl_number.f ((rd_T96 x18 x20).f1)).bind fun bt314 => (if bt314.2 = true then (impl_DocOk.l0 k x0 x18 x19 (wrap64 (x20 + 1))) else (some false))) else (if bt311.2.1 = 3 then ((impl_tagsOk.f k ((rd_T96 x18 x20).f1)).bind fun t316 => (if t316 = true then (impl_DocOk.l0 k x0 x18 x19 (wrap64 (x20 + 1))) else (some false))) else (some false))))) else (none)) else (none)) else (some true)
end
def impl_DocOk.f (k : Nat) (l0 : List (S79)) (a1_0 : ByteArray) (l1_1 : List (S96)) : Option (Bool) := (impl_FieldsOk.f k l0).bind fun t307 => (if t307 = true then ((impl_wellFormed.f k a1_0 l1_1).bind fun t308 => (impl_DocOk.j0 k l0 (!t308) a1_0 l1_1)) else (impl_DocOk.j0 k l0 true a1_0 l1_1))
theorem impl_DocOk.mono_l : ∀ k, (∀ y0 y1 y2 y3, LeO (impl_DocOk.j0 k y0 y1 y2 y3) (impl_DocOk.j0 (k + 1) y0 y1 y2 y3)) ∧ (∀ y0 y1 y2 y3, LeO (impl_DocOk.l0 k y0 y1 y2 y3) (impl_DocOk.l0 (k + 1) y0 y1 y2 y3))
 | 0 => ⟨fun _ _ _ _ r h => by simp [impl_DocOk.j0] at h, fun _ _ _ _ r h => by simp [impl_DocOk.l0] at h⟩
 | k + 1 => by
  obtain ⟨ih0, ih1⟩ := impl_DocOk.mono_l k; refine ⟨?_, ?_⟩
  ·intro y0 y1 y2 y3; unfold impl_DocOk.j0
   repeat' first
   | (with_reducible exact ih0 _ _ _ _)
   | (with_reducible exact ih1 _ _ _ _)
   | (with_reducible exact impl_FieldsOk.mono _ _)
   | (with_reducible exact impl_fieldOf.mono _ _ _)
   | (with_reducible exact impl_tagsOk.mono _ _)
   | (with_reducible exact impl_wellFormed.mono _ _ _)
   | (with_reducible exact LeO.refl _)
   | (with_reducible exact LeO.none _)
   | (with_reducible refine LeO.ite ?_ ?_)
   | (with_reducible refine LeO.bind ?_ (fun _ => ?_))
   | exact ih0 _ _ _ _
   | exact ih1 _ _ _ _
   | exact impl_FieldsOk.mono _ _
   | exact impl_fieldOf.mono _ _ _
   | exact impl_tagsOk.mono _ _
   | exact impl_wellFormed.mono _ _ _
   | exact LeO.none _
   | refine LeO.ite ?_ ?_
   | refine LeO.bind ?_ (fun _ => ?_)
  ·intro y0 y1 y2 y3; unfold impl_DocOk.l0
   repeat' first
   | (with_reducible exact ih0 _ _ _ _)
   | (with_reducible exact ih1 _ _ _ _)
   | (with_reducible exact impl_FieldsOk.mono _ _)
   | (with_reducible exact impl_fieldOf.mono _ _ _)
   | (with_reducible exact impl_tagsOk.mono _ _)
   | (with_reducible exact impl_wellFormed.mono _ _ _)
   | (with_reducible exact LeO.refl _)
   | (with_reducible exact LeO.none _)
   | (with_reducible refine LeO.ite ?_ ?_)
   | (with_reducible refine LeO.bind ?_ (fun _ => ?_))
   | exact ih0 _ _ _ _
   | exact ih1 _ _ _ _
   | exact impl_FieldsOk.mono _ _
   | exact impl_fieldOf.mono _ _ _
   | exact impl_tagsOk.mono _ _
   | exact impl_wellFormed.mono _ _ _
   | exact LeO.none _
   | refine LeO.ite ?_ ?_
   | refine LeO.bind ?_ (fun _ => ?_)
theorem impl_DocOk.mono : ∀ a0 a1 a2 k, LeO (impl_DocOk.f k a0 a1 a2) (impl_DocOk.f (k + 1) a0 a1 a2) := by
 intro a0 a1 a2 k; obtain ⟨ih0, ih1⟩ := impl_DocOk.mono_l k; unfold impl_DocOk.f
 repeat' first
   | (with_reducible exact ih0 _ _ _ _)
   | (with_reducible exact ih1 _ _ _ _)
   | (with_reducible exact impl_FieldsOk.mono _ _)
   | (with_reducible exact impl_fieldOf.mono _ _ _)
   | (with_reducible exact impl_tagsOk.mono _ _)
   | (with_reducible exact impl_wellFormed.mono _ _ _)
   | (with_reducible exact LeO.refl _)
   | (with_reducible exact LeO.none _)
   | (with_reducible refine LeO.ite ?_ ?_)
   | (with_reducible refine LeO.bind ?_ (fun _ => ?_))
   | exact ih0 _ _ _ _
   | exact ih1 _ _ _ _
   | exact impl_FieldsOk.mono _ _
   | exact impl_fieldOf.mono _ _ _
   | exact impl_tagsOk.mono _ _
   | exact impl_wellFormed.mono _ _ _
   | exact LeO.none _
   | refine LeO.ite ?_ ?_
   | refine LeO.bind ?_ (fun _ => ?_)
set_option maxHeartbeats 8000000 in
set_option maxRecDepth 100000 in
theorem impl_DocOk.calls (k : Nat) (A0 : Option Addr) (c0 : Nat) (l0 : List (S79)) (a1_0 : ByteArray) (A1_1 : Option Addr) (c1_1 : Nat) (l1_1 : List (S96)) (r : Bool) (w : World) (hG : StopsIn w) (hr0 : Kd.C k79 w A0 l0.length l0) (hc0 : l0.length ≤ c0) (hr1_1 : Kd.C k96 w A1_1 l1_1.length l1_1) (hc1_1 : l1_1.length ≤ c1_1) (h : impl_DocOk.f k l0 a1_0 l1_1 = some r) :
  Calls Tryz.prog 31 #[.slice A0 l0.length c0, .agg #[.string a1_0, .slice A1_1 l1_1.length c1_1]] w fun e w' => e = .returned (.bool r) ∧ Below w.heap.size w w' := by
 have hu45 := Tryz.underlying45; have hu96 := Tryz.underlying96; have HG_ := am_ hG; clear hG; have HR0 := am_ hr0; have HC0 := am_ hc0; clear hr0 hc0; have HR1_1 := am_ hr1_1; have HC1_1 := am_ hc1_1; clear hr1_1 hc1_1; have HB := am_ (Below.refl w.heap.size w); have H : ((impl_FieldsOk.f k l0).bind fun t307 => (if t307 = true then ((impl_wellFormed.f k a1_0 l1_1).bind fun t308 => (impl_DocOk.j0 k l0 (!t308) a1_0 l1_1)) else (impl_DocOk.j0 k l0 true a1_0 l1_1))) = some r := h; clear h; have HC3 := am_ H; clear H; go_enter Tryz.func31, Tryz.ntmps31
 go_upto_region 1 with (first | ((with_reducible refine gate_dst (N := 3) rfl ?_); refine box_event ?hg (N := 3) ?hd (cs := #[.string a1_0, .slice A1_1 l1_1.length c1_1]) (t := 45) ?hr ?_; (case hd => rfl); (case hg => rfl); (case hr => first | (go_simp; done) | (go_simp; rfl)); intro gb306 hg w4 hbox hb; have BK306 := am_ (hbox); have GW306 := am_ ((by rw [hg]; exact (below_size u0_) : w.heap.size ≤ gb306)); have GE306 := GW306; replace HB := am_ (below_step u0_ hb); clear hb hbox hg))
 (try simp only [Act.put, List.setIfInBounds_toArray, List.set_cons_zero, List.set_cons_succ])
 go_cut [16] (fun v16 wc => ∃ (kq : Nat) (x16_2 : Bool), v16 = .bool x16_2 ∧ Aside0 (impl_DocOk.j0 kq l0 x16_2 a1_0 l1_1 = some r) ∧ Aside0 (kq ≤ k) ∧ Aside0 (wc.heap[gb306]? = some (.cells #[.string a1_0, (.slice A1_1 l1_1.length c1_1)] 45 (0, 0))) ∧ Aside0 (Below w.heap.size w wc))
 case first =>
  have H := HC3.out; clear HC3; replace H := Option.bind_eq_some_iff.mp H; obtain ⟨t307, A50, H⟩ := H; replace H : (if t307 = true then ((impl_wellFormed.f k a1_0 l1_1).bind fun t308 => (impl_DocOk.j0 k l0 (!t308) a1_0 l1_1)) else (impl_DocOk.j0 k l0 true a1_0 l1_1)) = some r := H; have A5 := am_ A50; clear A50; by_cases c6 : t307 = true
  ·subst c6; have H1 : ((impl_wellFormed.f k a1_0 l1_1).bind fun t308 => (impl_DocOk.j0 k l0 (!t308) a1_0 l1_1)) = some r := by rw [if_pos rfl] at H; exact H
   clear H; have H := H1; clear H1; replace H := Option.bind_eq_some_iff.mp H; obtain ⟨t308, A70, H⟩ := H; replace H : (impl_DocOk.j0 k l0 (!t308) a1_0 l1_1) = some r := H; have A7 := am_ A70; clear A70; have H' := am_ H; clear H; go_wp2_with (first | ((with_reducible refine gate_callee (f := 25) rfl ?_); refine goesL_ (some 10) rfl rfl Tryz.func25 u8_ rfl #[.slice A0 l0.length c0] rfl u2_ ?_; (with_reducible refine (impl_FieldsOk.calls k _ _ l0 true _ ?side1 ?side2 A5.out).mono ?_); (case side1 => repeat (first | exact (Kd.C_below HR0.out HB.out) | (with_reducible refine Kd.C_alloc ?_ _) | (with_reducible refine Kd.C_drewN ?_ _) | (with_reducible refine Kd.C_drew ?_))); (case side2 => exact HC0.out); rintro e w8 ⟨rfl, hb⟩; refine ⟨_, rfl, ?_⟩; replace BK306 := am_ (blk_below (g := gb306) (o := .cells #[.string a1_0, .slice A1_1 l1_1.length c1_1] 45 (0, 0)) u19_ hb); replace HB := am_ (below_step u24_ hb); (try clear hb); (try clear hb2); (try clear hk); (try clear hi); have hcz9_0 : w8.cell? ⟨gb306, 0, none⟩ = some (.string a1_0) := (blk_cell BK306.out 0).trans rfl; have hcz9_1 : w8.cell? ⟨gb306, 1, none⟩ = some (.slice A1_1 l1_1.length c1_1) := (blk_cell BK306.out 1).trans rfl; have hfz9_0 := blk_frozen BK306.out 0; have hfz9_1 := blk_frozen BK306.out 1) | (go_at_call 59; (with_reducible refine (impl_wellFormed.calls k a1_0 _ _ l1_1 t308 _ ?side1 ?side2 A7.out).mono ?_); (case side1 => repeat (first | exact (Kd.C_below HR1_1.out HB.out) | (with_reducible refine Kd.C_alloc ?_ _) | (with_reducible refine Kd.C_drewN ?_ _) | (with_reducible refine Kd.C_drew ?_))); (case side2 => exact HC1_1.out); rintro e w10 ⟨rfl, hb⟩; replace BK306 := am_ (blk_below (g := gb306) (o := .cells #[.string a1_0, .slice A1_1 l1_1.length c1_1] 45 (0, 0)) u19_ hb); replace HB := am_ (below_step u24_ hb); (try clear hb); (try clear hb2); (try clear hk); (try clear hi)))
   go_meet
   case rel => exact ⟨_, (!t308), u15_, H', ⟨u117_⟩, ⟨u19_⟩, ⟨u24_⟩⟩
  ·replace c6 := Bool.eq_false_iff.mpr c6; subst c6; have H1 : (impl_DocOk.j0 k l0 true a1_0 l1_1) = some r := by rw [if_neg (show ¬ (false = true) by decide)] at H; exact H
   clear H; have H := H1; clear H1; have H' := am_ H; clear H; go_wp2_with (first | ((with_reducible refine gate_callee (f := 25) rfl ?_); refine goesL_ (some 10) rfl rfl Tryz.func25 u8_ rfl #[.slice A0 l0.length c0] rfl u2_ ?_; (with_reducible refine (impl_FieldsOk.calls k _ _ l0 false _ ?side1 ?side2 A5.out).mono ?_); (case side1 => repeat (first | exact (Kd.C_below HR0.out HB.out) | (with_reducible refine Kd.C_alloc ?_ _) | (with_reducible refine Kd.C_drewN ?_ _) | (with_reducible refine Kd.C_drew ?_))); (case side2 => exact HC0.out); rintro e w11 ⟨rfl, hb⟩; refine ⟨_, rfl, ?_⟩; replace BK306 := am_ (blk_below (g := gb306) (o := .cells #[.string a1_0, .slice A1_1 l1_1.length c1_1] 45 (0, 0)) u19_ hb); replace HB := am_ (below_step u24_ hb); (try clear hb); (try clear hb2); (try clear hk); (try clear hi)))
   go_meet
   case rel => exact ⟨_, (true), u15_, H', ⟨u117_⟩, ⟨u19_⟩, ⟨u24_⟩⟩
 case rest =>
  clear HC3; try clear c1
  try clear c2
  try clear p2
  try clear c3
  try clear c6
  try clear hcz9_0
  try clear hcz9_1
  try clear hfz9_0
  try clear hfz9_1
  obtain ⟨kq, x16_2, rfl, HA, HJ2, BK306, HB⟩ := hcut; cases kq with
  | zero => exact absurd HA.out (by simp [impl_DocOk.j0])
  | succ kj2 =>
   have H := HA.out; clear HA; simp only [impl_DocOk.j0] at H; by_cases c12 : x16_2 = true
   ·subst c12; have H1 : (some false) = some r := by rw [if_pos rfl] at H; exact H
    clear H; have H := H1; clear H1; obtain rfl := Option.some.inj H; go_wp2; go_ret
    exact ⟨u5_, u24_⟩
   ·replace c12 := Bool.eq_false_iff.mpr c12; subst c12; have H1 : (impl_DocOk.l0 kj2 l0 l1_1 (l1_1.length : Int) 0) = some r := by rw [if_neg (show ¬ (false = true) by decide)] at H; exact H
    clear H; have H := H1; clear H1; have H' := am_ H; clear H; have hcz13_0 : wc.cell? ⟨gb306, 0, none⟩ = some (.string a1_0) := (blk_cell BK306.out 0).trans rfl; have hcz13_1 : wc.cell? ⟨gb306, 1, none⟩ = some (.slice A1_1 l1_1.length c1_1) := (blk_cell BK306.out 1).trans rfl; have hfz13_0 := blk_frozen BK306.out 0; have hfz13_1 := blk_frozen BK306.out 1; go_wp2; go_loopg [20] kj2 (fun kq v20 w' => ∃ (x20_2 : Int), v20 = .int .i64 x20_2 ∧ Aside0 (impl_DocOk.l0 kq l0 l1_1 (l1_1.length : Int) x20_2 = some r) ∧ Aside0 (kq ≤ kj2) ∧ Aside0 (w'.heap[gb306]? = some (.cells #[.string a1_0, (.slice A1_1 l1_1.length c1_1)] 45 (0, 0))) ∧ Aside0 (Below w.heap.size w w'))
    case atStart => exact ⟨(0), u15_, H', ⟨Nat.le_refl _⟩, ⟨u19_⟩, ⟨u24_⟩⟩
    case round =>
     clear H'; try clear c1
     try clear c2
     try clear p2
     try clear c3
     try clear c6
     try clear c12
     try clear hcz13_0
     try clear hcz13_1
     try clear hcz9_0
     try clear hcz9_1
     try clear hfz13_0
     try clear hfz13_1
     try clear hfz9_0
     try clear hfz9_1
     try clear p2
     obtain ⟨x20_2, rfl, HA, HK2, BK306, HB⟩ := hrel; cases gk with
     | zero => exact absurd HA.out (by simp [impl_DocOk.l0])
     | succ k2 =>
      have H := HA.out; clear HA; simp only [impl_DocOk.l0] at H; by_cases c14 : x20_2 < (l1_1.length : Int)
      ·rw [if_pos c14] at H; have c14b0 : decide (x20_2 < (l1_1.length : Int)) = true := decide_eq_true c14; clear c14; by_cases c15 : 0 ≤ x20_2
       ·rw [if_pos c15] at H; have c15b0 : decide (0 ≤ x20_2) = true := decide_eq_true c15; clear c15; by_cases c16 : x20_2 < (l1_1.length : Int)
        ·rw [if_pos c16] at H; have c16b0 : decide (x20_2 < (l1_1.length : Int)) = true := decide_eq_true c16; clear c16; replace H := Option.bind_eq_some_iff.mp H; obtain ⟨⟨t311, t312, t313⟩, A170, H⟩ := H; replace H : (if t312 = 1 then (impl_DocOk.l0 k2 l0 l1_1 (l1_1.length : Int) (wrap64 (x20_2 + 1))) else (if t312 = 2 then ((impl_number.f ((rd_T96 l1_1 x20_2).f1)).bind fun bt314 => (if bt314.2 = true then (impl_DocOk.l0 k2 l0 l1_1 (l1_1.length : Int) (wrap64 (x20_2 + 1))) else (some false))) else (if t312 = 3 then ((impl_tagsOk.f k2 ((rd_T96 l1_1 x20_2).f1)).bind fun t316 => (if t316 = true then (impl_DocOk.l0 k2 l0 l1_1 (l1_1.length : Int) (wrap64 (x20_2 + 1))) else (some false))) else (some false)))) = some r := H; have A17 := am_ A170; clear A170; by_cases c18 : t312 = 1
         ·rw [if_pos c18] at H; have c18b0 : (t312 == 1) = true := beq_iff_eq.mpr c18; have c18b1 : (t312 != 1) = false := bne_eq_false_iff_eq.mpr c18; clear c18; have H' := am_ H; clear H; have p309 : 0 ≤ (x20_2 : Int) := of_decide_eq_true u4_; have q309 : x20_2 < (l1_1.length : Int) := of_decide_eq_true u4_; obtain ⟨ad309, e309, hx309_0, hx309_1⟩ := at_T96 HR1_1.out x20_2 p309 q309; cases e309; replace hx309_0 := (HB.out.cell (World.block_lt_of_cell? w _ hx309_0)).trans hx309_0; replace hx309_1 := (HB.out.cell (World.block_lt_of_cell? w _ hx309_1)).trans hx309_1; replace p309 := eq_true p309; replace q309 := eq_true q309; go_wp2_with (first | ((with_reducible refine gate_dst (N := 6) rfl ?_); refine box_event ?hg (N := 6) ?hd (cs := #[.string (⟨#[]⟩ : ByteArray), .string (⟨#[]⟩ : ByteArray)]) (t := 96) ?hr ?_; (case hd => rfl); (case hg => rfl); (case hr => first | (go_simp; done) | (go_simp; rfl)); intro gb310 hg w19 hbox hb; have BK310 := am_ (hbox); have GW310 := am_ ((by rw [hg]; exact (below_size u24_) : w.heap.size ≤ gb310)); have GE310 := GW310; replace HB := am_ (below_step u24_ hb); have NB306_310 := am_ ((by rw [hg]; exact Nat.ne_of_lt (blk_lt (g := gb306) (o := .cells #[.string a1_0, .slice (some ad309) l1_1.length c1_1] 45 (0, 0)) u19_) : gb306 ≠ gb310)); have NB310_306 := am_ ((by rw [hg]; exact Nat.ne_of_gt (blk_lt (g := gb306) (o := .cells #[.string a1_0, .slice (some ad309) l1_1.length c1_1] 45 (0, 0)) u19_) : gb310 ≠ gb306)); replace BK306 := am_ (blk_below (g := gb306) (o := .cells #[.string a1_0, .slice (some ad309) l1_1.length c1_1] 45 (0, 0)) u19_ hb); clear hb hbox hg; have hnb20 := NB310_306.out; have hnc20 := NB306_310.out; have hcz21_0 : w19.cell? ⟨gb310, 0, none⟩ = some (.string (⟨#[]⟩ : ByteArray)) := (blk_cell BK310.out 0).trans rfl; have hcz21_1 : w19.cell? ⟨gb310, 1, none⟩ = some (.string (⟨#[]⟩ : ByteArray)) := (blk_cell BK310.out 1).trans rfl; have hfz21_0 := blk_frozen BK310.out 0; have hfz21_1 := blk_frozen BK310.out 1) | ((with_reducible refine gate_callee (f := 60) rfl ?_); refine goesL_ (some 27) rfl rfl Tryz.func60 u8_ rfl #[.slice A0 l0.length c0, .string ((rd_T96 l1_1 x20_2).f0)] rfl u2_ ?_; (with_reducible refine (impl_fieldOf.calls k2 _ _ l0 ((rd_T96 l1_1 x20_2).f0) t311 t312 t313 _ ?side1 ?side2 A17.out).mono ?_); (case side1 => exact Kd.C_below HR0.out u14_); (case side2 => exact HC0.out); rintro e w22 ⟨rfl, hb⟩; refine ⟨_, rfl, ?_⟩; replace BK306 := am_ (blk_below (g := gb306) (o := .cells #[.string a1_0, .slice (some ad309) l1_1.length c1_1] 45 (0, 0)) u34_ hb); replace BK310 := am_ (blk_below (g := gb310) (o := .cells #[.string ((rd_T96 l1_1 x20_2).f0), .string ((rd_T96 l1_1 x20_2).f1)] 96 (0, 0)) u26_ hb); replace HB := am_ (below_step u14_ hb); (try clear hb); (try clear hb2); (try clear hk); (try clear hi)))
          go_roundg k2
          case measure => have := HJ2.out; have := HK2.out; omega
          case rel => exact ⟨(wrap64 (x20_2 + 1)), u15_, H', ⟨by have := HJ2.out; have := HK2.out; omega⟩, ⟨u19_⟩, ⟨u14_⟩⟩
         ·rw [if_neg c18] at H; have c18b0 : (t312 == 1) = false := beq_eq_false_iff_ne.mpr c18; have c18b1 : (t312 != 1) = true := bne_iff_ne.mpr c18; by_cases c23 : t312 = 2
          ·rw [if_pos c23] at H; have c23b0 : (t312 == 2) = true := beq_iff_eq.mpr c23; have c23b1 : (t312 != 2) = false := bne_eq_false_iff_eq.mpr c23; clear c23; replace H := Option.bind_eq_some_iff.mp H; obtain ⟨⟨t314, t315⟩, A240, H⟩ := H; replace H : (if t315 = true then (impl_DocOk.l0 k2 l0 l1_1 (l1_1.length : Int) (wrap64 (x20_2 + 1))) else (some false)) = some r := H; have A24 := am_ A240; clear A240; by_cases c25 : t315 = true
           ·subst c25; have H1 : (impl_DocOk.l0 k2 l0 l1_1 (l1_1.length : Int) (wrap64 (x20_2 + 1))) = some r := by rw [if_pos rfl] at H; exact H
            clear H; have H := H1; clear H1; have H' := am_ H; clear H; have p309 : 0 ≤ (x20_2 : Int) := of_decide_eq_true u4_; have q309 : x20_2 < (l1_1.length : Int) := of_decide_eq_true u4_; obtain ⟨ad309, e309, hx309_0, hx309_1⟩ := at_T96 HR1_1.out x20_2 p309 q309; cases e309; replace hx309_0 := (HB.out.cell (World.block_lt_of_cell? w _ hx309_0)).trans hx309_0; replace hx309_1 := (HB.out.cell (World.block_lt_of_cell? w _ hx309_1)).trans hx309_1; replace p309 := eq_true p309; replace q309 := eq_true q309; go_wp2_with (first | ((with_reducible refine gate_dst (N := 6) rfl ?_); refine box_event ?hg (N := 6) ?hd (cs := #[.string (⟨#[]⟩ : ByteArray), .string (⟨#[]⟩ : ByteArray)]) (t := 96) ?hr ?_; (case hd => rfl); (case hg => rfl); (case hr => first | (go_simp; done) | (go_simp; rfl)); intro gb310 hg w26 hbox hb; have BK310 := am_ (hbox); have GW310 := am_ ((by rw [hg]; exact (below_size u24_) : w.heap.size ≤ gb310)); have GE310 := GW310; replace HB := am_ (below_step u24_ hb); have NB306_310 := am_ ((by rw [hg]; exact Nat.ne_of_lt (blk_lt (g := gb306) (o := .cells #[.string a1_0, .slice (some ad309) l1_1.length c1_1] 45 (0, 0)) u19_) : gb306 ≠ gb310)); have NB310_306 := am_ ((by rw [hg]; exact Nat.ne_of_gt (blk_lt (g := gb306) (o := .cells #[.string a1_0, .slice (some ad309) l1_1.length c1_1] 45 (0, 0)) u19_) : gb310 ≠ gb306)); replace BK306 := am_ (blk_below (g := gb306) (o := .cells #[.string a1_0, .slice (some ad309) l1_1.length c1_1] 45 (0, 0)) u19_ hb); clear hb hbox hg; have hnb27 := NB310_306.out; have hnc27 := NB306_310.out; have hcz28_0 : w26.cell? ⟨gb310, 0, none⟩ = some (.string (⟨#[]⟩ : ByteArray)) := (blk_cell BK310.out 0).trans rfl; have hcz28_1 : w26.cell? ⟨gb310, 1, none⟩ = some (.string (⟨#[]⟩ : ByteArray)) := (blk_cell BK310.out 1).trans rfl; have hfz28_0 := blk_frozen BK310.out 0; have hfz28_1 := blk_frozen BK310.out 1) | ((with_reducible refine gate_callee (f := 60) rfl ?_); refine goesL_ (some 27) rfl rfl Tryz.func60 u8_ rfl #[.slice A0 l0.length c0, .string ((rd_T96 l1_1 x20_2).f0)] rfl u2_ ?_; (with_reducible refine (impl_fieldOf.calls k2 _ _ l0 ((rd_T96 l1_1 x20_2).f0) t311 t312 t313 _ ?side1 ?side2 A17.out).mono ?_); (case side1 => exact Kd.C_below HR0.out u14_); (case side2 => exact HC0.out); rintro e w29 ⟨rfl, hb⟩; refine ⟨_, rfl, ?_⟩; replace BK306 := am_ (blk_below (g := gb306) (o := .cells #[.string a1_0, .slice (some ad309) l1_1.length c1_1] 45 (0, 0)) u34_ hb); replace BK310 := am_ (blk_below (g := gb310) (o := .cells #[.string ((rd_T96 l1_1 x20_2).f0), .string ((rd_T96 l1_1 x20_2).f1)] 96 (0, 0)) u26_ hb); replace HB := am_ (below_step u14_ hb); (try clear hb); (try clear hb2); (try clear hk); (try clear hi); have hcz30_0 : w29.cell? ⟨gb310, 0, none⟩ = some (.string ((rd_T96 l1_1 x20_2).f0)) := (blk_cell BK310.out 0).trans rfl; have hcz30_1 : w29.cell? ⟨gb310, 1, none⟩ = some (.string ((rd_T96 l1_1 x20_2).f1)) := (blk_cell BK310.out 1).trans rfl; have hfz30_0 := blk_frozen BK310.out 0; have hfz30_1 := blk_frozen BK310.out 1) | ((with_reducible refine gate_callee (f := 61) rfl ?_); refine goesL_ (some 36) rfl rfl Tryz.func61 u8_ rfl #[.string ((rd_T96 l1_1 x20_2).f1)] rfl u2_ ?_; (with_reducible refine (impl_number.calls ((rd_T96 l1_1 x20_2).f1) t314 true _ ?side1 A24.out).mono ?_); (case side1 => exact StopsIn.below HG_.out u14_); rintro e w31 ⟨rfl, hb⟩; refine ⟨_, rfl, ?_⟩; replace BK306 := am_ (blk_below (g := gb306) (o := .cells #[.string a1_0, .slice (some ad309) l1_1.length c1_1] 45 (0, 0)) u19_ hb); replace BK310 := am_ (blk_below (g := gb310) (o := .cells #[.string ((rd_T96 l1_1 x20_2).f0), .string ((rd_T96 l1_1 x20_2).f1)] 96 (0, 0)) u95_ hb); replace HB := am_ (below_step u14_ hb); (try clear hb); (try clear hb2); (try clear hk); (try clear hi)))
            go_roundg k2
            case measure => have := HJ2.out; have := HK2.out; omega
            case rel => exact ⟨(wrap64 (x20_2 + 1)), u15_, H', ⟨by have := HJ2.out; have := HK2.out; omega⟩, ⟨u19_⟩, ⟨u14_⟩⟩
           ·replace c25 := Bool.eq_false_iff.mpr c25; subst c25; have H1 : (some false) = some r := by rw [if_neg (show ¬ (false = true) by decide)] at H; exact H
            clear H; have H := H1; clear H1; obtain rfl := Option.some.inj H; have p309 : 0 ≤ (x20_2 : Int) := of_decide_eq_true u4_; have q309 : x20_2 < (l1_1.length : Int) := of_decide_eq_true u4_; obtain ⟨ad309, e309, hx309_0, hx309_1⟩ := at_T96 HR1_1.out x20_2 p309 q309; cases e309; replace hx309_0 := (HB.out.cell (World.block_lt_of_cell? w _ hx309_0)).trans hx309_0; replace hx309_1 := (HB.out.cell (World.block_lt_of_cell? w _ hx309_1)).trans hx309_1; replace p309 := eq_true p309; replace q309 := eq_true q309; go_wp2_with (first | ((with_reducible refine gate_dst (N := 6) rfl ?_); refine box_event ?hg (N := 6) ?hd (cs := #[.string (⟨#[]⟩ : ByteArray), .string (⟨#[]⟩ : ByteArray)]) (t := 96) ?hr ?_; (case hd => rfl); (case hg => rfl); (case hr => first | (go_simp; done) | (go_simp; rfl)); intro gb310 hg w32 hbox hb; have BK310 := am_ (hbox); have GW310 := am_ ((by rw [hg]; exact (below_size u24_) : w.heap.size ≤ gb310)); have GE310 := GW310; replace HB := am_ (below_step u24_ hb); have NB306_310 := am_ ((by rw [hg]; exact Nat.ne_of_lt (blk_lt (g := gb306) (o := .cells #[.string a1_0, .slice (some ad309) l1_1.length c1_1] 45 (0, 0)) u19_) : gb306 ≠ gb310)); have NB310_306 := am_ ((by rw [hg]; exact Nat.ne_of_gt (blk_lt (g := gb306) (o := .cells #[.string a1_0, .slice (some ad309) l1_1.length c1_1] 45 (0, 0)) u19_) : gb310 ≠ gb306)); replace BK306 := am_ (blk_below (g := gb306) (o := .cells #[.string a1_0, .slice (some ad309) l1_1.length c1_1] 45 (0, 0)) u19_ hb); clear hb hbox hg; have hnb33 := NB310_306.out; have hnc33 := NB306_310.out; have hcz34_0 : w32.cell? ⟨gb310, 0, none⟩ = some (.string (⟨#[]⟩ : ByteArray)) := (blk_cell BK310.out 0).trans rfl; have hcz34_1 : w32.cell? ⟨gb310, 1, none⟩ = some (.string (⟨#[]⟩ : ByteArray)) := (blk_cell BK310.out 1).trans rfl; have hfz34_0 := blk_frozen BK310.out 0; have hfz34_1 := blk_frozen BK310.out 1) | ((with_reducible refine gate_callee (f := 60) rfl ?_); refine goesL_ (some 27) rfl rfl Tryz.func60 u8_ rfl #[.slice A0 l0.length c0, .string ((rd_T96 l1_1 x20_2).f0)] rfl u2_ ?_; (with_reducible refine (impl_fieldOf.calls k2 _ _ l0 ((rd_T96 l1_1 x20_2).f0) t311 t312 t313 _ ?side1 ?side2 A17.out).mono ?_); (case side1 => exact Kd.C_below HR0.out u14_); (case side2 => exact HC0.out); rintro e w35 ⟨rfl, hb⟩; refine ⟨_, rfl, ?_⟩; replace BK306 := am_ (blk_below (g := gb306) (o := .cells #[.string a1_0, .slice (some ad309) l1_1.length c1_1] 45 (0, 0)) u34_ hb); replace BK310 := am_ (blk_below (g := gb310) (o := .cells #[.string ((rd_T96 l1_1 x20_2).f0), .string ((rd_T96 l1_1 x20_2).f1)] 96 (0, 0)) u26_ hb); replace HB := am_ (below_step u14_ hb); (try clear hb); (try clear hb2); (try clear hk); (try clear hi); have hcz36_0 : w35.cell? ⟨gb310, 0, none⟩ = some (.string ((rd_T96 l1_1 x20_2).f0)) := (blk_cell BK310.out 0).trans rfl; have hcz36_1 : w35.cell? ⟨gb310, 1, none⟩ = some (.string ((rd_T96 l1_1 x20_2).f1)) := (blk_cell BK310.out 1).trans rfl; have hfz36_0 := blk_frozen BK310.out 0; have hfz36_1 := blk_frozen BK310.out 1) | ((with_reducible refine gate_callee (f := 61) rfl ?_); refine goesL_ (some 36) rfl rfl Tryz.func61 u8_ rfl #[.string ((rd_T96 l1_1 x20_2).f1)] rfl u2_ ?_; (with_reducible refine (impl_number.calls ((rd_T96 l1_1 x20_2).f1) t314 false _ ?side1 A24.out).mono ?_); (case side1 => exact StopsIn.below HG_.out u14_); rintro e w37 ⟨rfl, hb⟩; refine ⟨_, rfl, ?_⟩; replace BK306 := am_ (blk_below (g := gb306) (o := .cells #[.string a1_0, .slice (some ad309) l1_1.length c1_1] 45 (0, 0)) u19_ hb); replace BK310 := am_ (blk_below (g := gb310) (o := .cells #[.string ((rd_T96 l1_1 x20_2).f0), .string ((rd_T96 l1_1 x20_2).f1)] 96 (0, 0)) u95_ hb); replace HB := am_ (below_step u14_ hb); (try clear hb); (try clear hb2); (try clear hk); (try clear hi)))
            go_ret
            exact ⟨u5_, u14_⟩
          ·rw [if_neg c23] at H; have c23b0 : (t312 == 2) = false := beq_eq_false_iff_ne.mpr c23; have c23b1 : (t312 != 2) = true := bne_iff_ne.mpr c23; by_cases c38 : t312 = 3
           ·rw [if_pos c38] at H; have c38b0 : (t312 == 3) = true := beq_iff_eq.mpr c38; have c38b1 : (t312 != 3) = false := bne_eq_false_iff_eq.mpr c38; clear c38; replace H := Option.bind_eq_some_iff.mp H; obtain ⟨t316, A390, H⟩ := H; replace H : (if t316 = true then (impl_DocOk.l0 k2 l0 l1_1 (l1_1.length : Int) (wrap64 (x20_2 + 1))) else (some false)) = some r := H; have A39 := am_ A390; clear A390; by_cases c40 : t316 = true
            ·subst c40; have H1 : (impl_DocOk.l0 k2 l0 l1_1 (l1_1.length : Int) (wrap64 (x20_2 + 1))) = some r := by rw [if_pos rfl] at H; exact H
             clear H; have H := H1; clear H1; have H' := am_ H; clear H; have p309 : 0 ≤ (x20_2 : Int) := of_decide_eq_true u4_; have q309 : x20_2 < (l1_1.length : Int) := of_decide_eq_true u4_; obtain ⟨ad309, e309, hx309_0, hx309_1⟩ := at_T96 HR1_1.out x20_2 p309 q309; cases e309; replace hx309_0 := (HB.out.cell (World.block_lt_of_cell? w _ hx309_0)).trans hx309_0; replace hx309_1 := (HB.out.cell (World.block_lt_of_cell? w _ hx309_1)).trans hx309_1; replace p309 := eq_true p309; replace q309 := eq_true q309; go_wp2_with (first | ((with_reducible refine gate_dst (N := 6) rfl ?_); refine box_event ?hg (N := 6) ?hd (cs := #[.string (⟨#[]⟩ : ByteArray), .string (⟨#[]⟩ : ByteArray)]) (t := 96) ?hr ?_; (case hd => rfl); (case hg => rfl); (case hr => first | (go_simp; done) | (go_simp; rfl)); intro gb310 hg w41 hbox hb; have BK310 := am_ (hbox); have GW310 := am_ ((by rw [hg]; exact (below_size u24_) : w.heap.size ≤ gb310)); have GE310 := GW310; replace HB := am_ (below_step u24_ hb); have NB306_310 := am_ ((by rw [hg]; exact Nat.ne_of_lt (blk_lt (g := gb306) (o := .cells #[.string a1_0, .slice (some ad309) l1_1.length c1_1] 45 (0, 0)) u19_) : gb306 ≠ gb310)); have NB310_306 := am_ ((by rw [hg]; exact Nat.ne_of_gt (blk_lt (g := gb306) (o := .cells #[.string a1_0, .slice (some ad309) l1_1.length c1_1] 45 (0, 0)) u19_) : gb310 ≠ gb306)); replace BK306 := am_ (blk_below (g := gb306) (o := .cells #[.string a1_0, .slice (some ad309) l1_1.length c1_1] 45 (0, 0)) u19_ hb); clear hb hbox hg; have hnb42 := NB310_306.out; have hnc42 := NB306_310.out; have hcz43_0 : w41.cell? ⟨gb310, 0, none⟩ = some (.string (⟨#[]⟩ : ByteArray)) := (blk_cell BK310.out 0).trans rfl; have hcz43_1 : w41.cell? ⟨gb310, 1, none⟩ = some (.string (⟨#[]⟩ : ByteArray)) := (blk_cell BK310.out 1).trans rfl; have hfz43_0 := blk_frozen BK310.out 0; have hfz43_1 := blk_frozen BK310.out 1) | ((with_reducible refine gate_callee (f := 60) rfl ?_); refine goesL_ (some 27) rfl rfl Tryz.func60 u8_ rfl #[.slice A0 l0.length c0, .string ((rd_T96 l1_1 x20_2).f0)] rfl u2_ ?_; (with_reducible refine (impl_fieldOf.calls k2 _ _ l0 ((rd_T96 l1_1 x20_2).f0) t311 t312 t313 _ ?side1 ?side2 A17.out).mono ?_); (case side1 => exact Kd.C_below HR0.out u14_); (case side2 => exact HC0.out); rintro e w44 ⟨rfl, hb⟩; refine ⟨_, rfl, ?_⟩; replace BK306 := am_ (blk_below (g := gb306) (o := .cells #[.string a1_0, .slice (some ad309) l1_1.length c1_1] 45 (0, 0)) u34_ hb); replace BK310 := am_ (blk_below (g := gb310) (o := .cells #[.string ((rd_T96 l1_1 x20_2).f0), .string ((rd_T96 l1_1 x20_2).f1)] 96 (0, 0)) u26_ hb); replace HB := am_ (below_step u14_ hb); (try clear hb); (try clear hb2); (try clear hk); (try clear hi); have hcz45_0 : w44.cell? ⟨gb310, 0, none⟩ = some (.string ((rd_T96 l1_1 x20_2).f0)) := (blk_cell BK310.out 0).trans rfl; have hcz45_1 : w44.cell? ⟨gb310, 1, none⟩ = some (.string ((rd_T96 l1_1 x20_2).f1)) := (blk_cell BK310.out 1).trans rfl; have hfz45_0 := blk_frozen BK310.out 0; have hfz45_1 := blk_frozen BK310.out 1) | ((with_reducible refine gate_callee (f := 62) rfl ?_); refine goesL_ (some 45) rfl rfl Tryz.func62 u8_ rfl #[.string ((rd_T96 l1_1 x20_2).f1)] rfl u2_ ?_; (with_reducible refine (impl_tagsOk.calls k2 ((rd_T96 l1_1 x20_2).f1) true _ ?side1 A39.out).mono ?_); (case side1 => exact StopsIn.below HG_.out u14_); rintro e w46 ⟨rfl, hb⟩; refine ⟨_, rfl, ?_⟩; replace BK306 := am_ (blk_below (g := gb306) (o := .cells #[.string a1_0, .slice (some ad309) l1_1.length c1_1] 45 (0, 0)) u19_ hb); replace BK310 := am_ (blk_below (g := gb310) (o := .cells #[.string ((rd_T96 l1_1 x20_2).f0), .string ((rd_T96 l1_1 x20_2).f1)] 96 (0, 0)) u95_ hb); replace HB := am_ (below_step u14_ hb); (try clear hb); (try clear hb2); (try clear hk); (try clear hi)))
             go_roundg k2
             case measure => have := HJ2.out; have := HK2.out; omega
             case rel => exact ⟨(wrap64 (x20_2 + 1)), u15_, H', ⟨by have := HJ2.out; have := HK2.out; omega⟩, ⟨u19_⟩, ⟨u14_⟩⟩
            ·replace c40 := Bool.eq_false_iff.mpr c40; subst c40; have H1 : (some false) = some r := by rw [if_neg (show ¬ (false = true) by decide)] at H; exact H
             clear H; have H := H1; clear H1; obtain rfl := Option.some.inj H; have p309 : 0 ≤ (x20_2 : Int) := of_decide_eq_true u4_; have q309 : x20_2 < (l1_1.length : Int) := of_decide_eq_true u4_; obtain ⟨ad309, e309, hx309_0, hx309_1⟩ := at_T96 HR1_1.out x20_2 p309 q309; cases e309; replace hx309_0 := (HB.out.cell (World.block_lt_of_cell? w _ hx309_0)).trans hx309_0; replace hx309_1 := (HB.out.cell (World.block_lt_of_cell? w _ hx309_1)).trans hx309_1; replace p309 := eq_true p309; replace q309 := eq_true q309; go_wp2_with (first | ((with_reducible refine gate_dst (N := 6) rfl ?_); refine box_event ?hg (N := 6) ?hd (cs := #[.string (⟨#[]⟩ : ByteArray), .string (⟨#[]⟩ : ByteArray)]) (t := 96) ?hr ?_; (case hd => rfl); (case hg => rfl); (case hr => first | (go_simp; done) | (go_simp; rfl)); intro gb310 hg w47 hbox hb; have BK310 := am_ (hbox); have GW310 := am_ ((by rw [hg]; exact (below_size u24_) : w.heap.size ≤ gb310)); have GE310 := GW310; replace HB := am_ (below_step u24_ hb); have NB306_310 := am_ ((by rw [hg]; exact Nat.ne_of_lt (blk_lt (g := gb306) (o := .cells #[.string a1_0, .slice (some ad309) l1_1.length c1_1] 45 (0, 0)) u19_) : gb306 ≠ gb310)); have NB310_306 := am_ ((by rw [hg]; exact Nat.ne_of_gt (blk_lt (g := gb306) (o := .cells #[.string a1_0, .slice (some ad309) l1_1.length c1_1] 45 (0, 0)) u19_) : gb310 ≠ gb306)); replace BK306 := am_ (blk_below (g := gb306) (o := .cells #[.string a1_0, .slice (some ad309) l1_1.length c1_1] 45 (0, 0)) u19_ hb); clear hb hbox hg; have hnb48 := NB310_306.out; have hnc48 := NB306_310.out; have hcz49_0 : w47.cell? ⟨gb310, 0, none⟩ = some (.string (⟨#[]⟩ : ByteArray)) := (blk_cell BK310.out 0).trans rfl; have hcz49_1 : w47.cell? ⟨gb310, 1, none⟩ = some (.string (⟨#[]⟩ : ByteArray)) := (blk_cell BK310.out 1).trans rfl; have hfz49_0 := blk_frozen BK310.out 0; have hfz49_1 := blk_frozen BK310.out 1) | ((with_reducible refine gate_callee (f := 60) rfl ?_); refine goesL_ (some 27) rfl rfl Tryz.func60 u8_ rfl #[.slice A0 l0.length c0, .string ((rd_T96 l1_1 x20_2).f0)] rfl u2_ ?_; (with_reducible refine (impl_fieldOf.calls k2 _ _ l0 ((rd_T96 l1_1 x20_2).f0) t311 t312 t313 _ ?side1 ?side2 A17.out).mono ?_); (case side1 => exact Kd.C_below HR0.out u14_); (case side2 => exact HC0.out); rintro e w50 ⟨rfl, hb⟩; refine ⟨_, rfl, ?_⟩; replace BK306 := am_ (blk_below (g := gb306) (o := .cells #[.string a1_0, .slice (some ad309) l1_1.length c1_1] 45 (0, 0)) u34_ hb); replace BK310 := am_ (blk_below (g := gb310) (o := .cells #[.string ((rd_T96 l1_1 x20_2).f0), .string ((rd_T96 l1_1 x20_2).f1)] 96 (0, 0)) u26_ hb); replace HB := am_ (below_step u14_ hb); (try clear hb); (try clear hb2); (try clear hk); (try clear hi); have hcz51_0 : w50.cell? ⟨gb310, 0, none⟩ = some (.string ((rd_T96 l1_1 x20_2).f0)) := (blk_cell BK310.out 0).trans rfl; have hcz51_1 : w50.cell? ⟨gb310, 1, none⟩ = some (.string ((rd_T96 l1_1 x20_2).f1)) := (blk_cell BK310.out 1).trans rfl; have hfz51_0 := blk_frozen BK310.out 0; have hfz51_1 := blk_frozen BK310.out 1) | ((with_reducible refine gate_callee (f := 62) rfl ?_); refine goesL_ (some 45) rfl rfl Tryz.func62 u8_ rfl #[.string ((rd_T96 l1_1 x20_2).f1)] rfl u2_ ?_; (with_reducible refine (impl_tagsOk.calls k2 ((rd_T96 l1_1 x20_2).f1) false _ ?side1 A39.out).mono ?_); (case side1 => exact StopsIn.below HG_.out u14_); rintro e w52 ⟨rfl, hb⟩; refine ⟨_, rfl, ?_⟩; replace BK306 := am_ (blk_below (g := gb306) (o := .cells #[.string a1_0, .slice (some ad309) l1_1.length c1_1] 45 (0, 0)) u19_ hb); replace BK310 := am_ (blk_below (g := gb310) (o := .cells #[.string ((rd_T96 l1_1 x20_2).f0), .string ((rd_T96 l1_1 x20_2).f1)] 96 (0, 0)) u95_ hb); replace HB := am_ (below_step u14_ hb); (try clear hb); (try clear hb2); (try clear hk); (try clear hi)))
             go_ret
             exact ⟨u5_, u14_⟩
           ·rw [if_neg c38] at H; have c38b0 : (t312 == 3) = false := beq_eq_false_iff_ne.mpr c38; have c38b1 : (t312 != 3) = true := bne_iff_ne.mpr c38; obtain rfl := Option.some.inj H; have p309 : 0 ≤ (x20_2 : Int) := of_decide_eq_true u4_; have q309 : x20_2 < (l1_1.length : Int) := of_decide_eq_true u4_; obtain ⟨ad309, e309, hx309_0, hx309_1⟩ := at_T96 HR1_1.out x20_2 p309 q309; cases e309; replace hx309_0 := (HB.out.cell (World.block_lt_of_cell? w _ hx309_0)).trans hx309_0; replace hx309_1 := (HB.out.cell (World.block_lt_of_cell? w _ hx309_1)).trans hx309_1; replace p309 := eq_true p309; replace q309 := eq_true q309; go_wp2_with (first | ((with_reducible refine gate_dst (N := 6) rfl ?_); refine box_event ?hg (N := 6) ?hd (cs := #[.string (⟨#[]⟩ : ByteArray), .string (⟨#[]⟩ : ByteArray)]) (t := 96) ?hr ?_; (case hd => rfl); (case hg => rfl); (case hr => first | (go_simp; done) | (go_simp; rfl)); intro gb310 hg w53 hbox hb; have BK310 := am_ (hbox); have GW310 := am_ ((by rw [hg]; exact (below_size u24_) : w.heap.size ≤ gb310)); have GE310 := GW310; replace HB := am_ (below_step u24_ hb); have NB306_310 := am_ ((by rw [hg]; exact Nat.ne_of_lt (blk_lt (g := gb306) (o := .cells #[.string a1_0, .slice (some ad309) l1_1.length c1_1] 45 (0, 0)) u19_) : gb306 ≠ gb310)); have NB310_306 := am_ ((by rw [hg]; exact Nat.ne_of_gt (blk_lt (g := gb306) (o := .cells #[.string a1_0, .slice (some ad309) l1_1.length c1_1] 45 (0, 0)) u19_) : gb310 ≠ gb306)); replace BK306 := am_ (blk_below (g := gb306) (o := .cells #[.string a1_0, .slice (some ad309) l1_1.length c1_1] 45 (0, 0)) u19_ hb); clear hb hbox hg; have hnb54 := NB310_306.out; have hnc54 := NB306_310.out; have hcz55_0 : w53.cell? ⟨gb310, 0, none⟩ = some (.string (⟨#[]⟩ : ByteArray)) := (blk_cell BK310.out 0).trans rfl; have hcz55_1 : w53.cell? ⟨gb310, 1, none⟩ = some (.string (⟨#[]⟩ : ByteArray)) := (blk_cell BK310.out 1).trans rfl; have hfz55_0 := blk_frozen BK310.out 0; have hfz55_1 := blk_frozen BK310.out 1) | ((with_reducible refine gate_callee (f := 60) rfl ?_); refine goesL_ (some 27) rfl rfl Tryz.func60 u8_ rfl #[.slice A0 l0.length c0, .string ((rd_T96 l1_1 x20_2).f0)] rfl u2_ ?_; (with_reducible refine (impl_fieldOf.calls k2 _ _ l0 ((rd_T96 l1_1 x20_2).f0) t311 t312 t313 _ ?side1 ?side2 A17.out).mono ?_); (case side1 => exact Kd.C_below HR0.out u14_); (case side2 => exact HC0.out); rintro e w56 ⟨rfl, hb⟩; refine ⟨_, rfl, ?_⟩; replace BK306 := am_ (blk_below (g := gb306) (o := .cells #[.string a1_0, .slice (some ad309) l1_1.length c1_1] 45 (0, 0)) u34_ hb); replace BK310 := am_ (blk_below (g := gb310) (o := .cells #[.string ((rd_T96 l1_1 x20_2).f0), .string ((rd_T96 l1_1 x20_2).f1)] 96 (0, 0)) u26_ hb); replace HB := am_ (below_step u14_ hb); (try clear hb); (try clear hb2); (try clear hk); (try clear hi)))
            go_ret
            exact ⟨u5_, u14_⟩
        ·rw [if_neg c16] at H; exact absurd H u91_
       ·rw [if_neg c15] at H; exact absurd H u91_
      ·rw [if_neg c14] at H; have c14b0 : decide (x20_2 < (l1_1.length : Int)) = false := decide_eq_false c14; clear c14; obtain rfl := Option.some.inj H; go_wp2; go_ret
       exact ⟨u5_, u24_⟩

/-! ### impl_DocText: function 97 -/
def impl_DocText.l0 : Nat → ByteArray → List (S96) → Int → Int → Option (ByteArray × Bool)
 | 0, _, _, _, _ => none
 | k + 1, x1, x9, x10, x11 => if x11 < x10 then (if 0 ≤ x11 then (if x11 < (x9.length : Int) then (if ((rd_T96 x9 x11).f0).toList = x1.toList then (some ((rd_T96 x9 x11).f1, true)) else (impl_DocText.l0 k x1 x9 x10 (wrap64 (x11 + 1)))) else (none)) else (none)) else (some ((⟨#[]⟩ : ByteArray), false))
def impl_DocText.f (k : Nat) (a0_0 : ByteArray) (l0_1 : List (S96)) (a1 : ByteArray) : Option (ByteArray × Bool) := impl_DocText.l0 k a1 l0_1 (l0_1.length : Int) 0
theorem impl_DocText.mono_l : ∀ k, (∀ y0 y1 y2 y3, LeO (impl_DocText.l0 k y0 y1 y2 y3) (impl_DocText.l0 (k + 1) y0 y1 y2 y3))
 | 0 => fun _ _ _ _ r h => by simp [impl_DocText.l0] at h
 | k + 1 => by
  have ih0 := impl_DocText.mono_l k
  ·intro y0 y1 y2 y3; unfold impl_DocText.l0
   repeat' first
   | (with_reducible exact ih0 _ _ _ _)
   | (with_reducible exact LeO.refl _)
   | (with_reducible exact LeO.none _)
   | (with_reducible refine LeO.ite ?_ ?_)
   | (with_reducible refine LeO.bind ?_ (fun _ => ?_))
   | exact ih0 _ _ _ _
   | exact LeO.none _
   | refine LeO.ite ?_ ?_
   | refine LeO.bind ?_ (fun _ => ?_)
theorem impl_DocText.mono : ∀ a0 a1 a2 k, LeO (impl_DocText.f k a0 a1 a2) (impl_DocText.f (k + 1) a0 a1 a2) := by
 intro a0 a1 a2 k; have ih0 := impl_DocText.mono_l k; unfold impl_DocText.f
 repeat' first
   | (with_reducible exact ih0 _ _ _ _)
   | (with_reducible exact LeO.refl _)
   | (with_reducible exact LeO.none _)
   | (with_reducible refine LeO.ite ?_ ?_)
   | (with_reducible refine LeO.bind ?_ (fun _ => ?_))
   | exact ih0 _ _ _ _
   | exact LeO.none _
   | refine LeO.ite ?_ ?_
   | refine LeO.bind ?_ (fun _ => ?_)
set_option maxHeartbeats 8000000 in
set_option maxRecDepth 100000 in
theorem impl_DocText.calls (k : Nat) (a0_0 : ByteArray) (A0_1 : Option Addr) (c0_1 : Nat) (l0_1 : List (S96)) (a1 : ByteArray) (r1 : ByteArray) (r2 : Bool) (w : World) (hr0_1 : Kd.C k96 w A0_1 l0_1.length l0_1) (hc0_1 : l0_1.length ≤ c0_1) (h : impl_DocText.f k a0_0 l0_1 a1 = some (r1, r2)) :
  Calls Tryz.prog 97 #[.agg #[.string a0_0, .slice A0_1 l0_1.length c0_1], .string a1] w fun e w' => e = .returned (.tuple #[.string r1, .bool r2]) ∧ Below w.heap.size w w' := by
 have hu45 := Tryz.underlying45; have hu96 := Tryz.underlying96; have HR0_1 := am_ hr0_1; have HC0_1 := am_ hc0_1; clear hr0_1 hc0_1; have HB := am_ (Below.refl w.heap.size w); have H : (impl_DocText.l0 k a1 l0_1 (l0_1.length : Int) 0) = some (r1, r2) := h; clear h; have H' := am_ H; clear H; go_enter Tryz.func97, Tryz.ntmps97
 go_wp2_with (first | ((with_reducible refine gate_dst (N := 2) rfl ?_); refine box_event ?hg (N := 2) ?hd (cs := #[.string a0_0, .slice A0_1 l0_1.length c0_1]) (t := 45) ?hr ?_; (case hd => rfl); (case hg => rfl); (case hr => first | (go_simp; done) | (go_simp; rfl)); intro gb317 hg w3 hbox hb; have BK317 := am_ (hbox); have GW317 := am_ ((by rw [hg]; exact (below_size u0_) : w.heap.size ≤ gb317)); have GE317 := GW317; replace HB := am_ (below_step u0_ hb); clear hb hbox hg; have hcz4_0 : w3.cell? ⟨gb317, 0, none⟩ = some (.string a0_0) := (blk_cell BK317.out 0).trans rfl; have hcz4_1 : w3.cell? ⟨gb317, 1, none⟩ = some (.slice A0_1 l0_1.length c0_1) := (blk_cell BK317.out 1).trans rfl; have hfz4_0 := blk_frozen BK317.out 0; have hfz4_1 := blk_frozen BK317.out 1))
 go_loopg [11] k (fun kq v11 w' => ∃ (x11_1 : Int), v11 = .int .i64 x11_1 ∧ Aside0 (impl_DocText.l0 kq a1 l0_1 (l0_1.length : Int) x11_1 = some (r1, r2)) ∧ Aside0 (kq ≤ k) ∧ Aside0 (w'.heap[gb317]? = some (.cells #[.string a0_0, (.slice A0_1 l0_1.length c0_1)] 45 (0, 0))) ∧ Aside0 (Below w.heap.size w w'))
 case atStart => exact ⟨(0), u15_, H', ⟨Nat.le_refl _⟩, ⟨u73_⟩, ⟨u59_⟩⟩
 case round =>
  clear H'; try clear p2
  try clear hcz4_0
  try clear hcz4_1
  try clear hfz4_0
  try clear hfz4_1
  obtain ⟨x11_1, rfl, HA, HK1, BK317, HB⟩ := hrel; cases gk with
  | zero => exact absurd HA.out (by simp [impl_DocText.l0])
  | succ k1 =>
   have H := HA.out; clear HA; simp only [impl_DocText.l0] at H; by_cases c5 : x11_1 < (l0_1.length : Int)
   ·rw [if_pos c5] at H; have c5b0 : decide (x11_1 < (l0_1.length : Int)) = true := decide_eq_true c5; clear c5; by_cases c6 : 0 ≤ x11_1
    ·rw [if_pos c6] at H; have c6b0 : decide (0 ≤ x11_1) = true := decide_eq_true c6; clear c6; by_cases c7 : x11_1 < (l0_1.length : Int)
     ·rw [if_pos c7] at H; have c7b0 : decide (x11_1 < (l0_1.length : Int)) = true := decide_eq_true c7; clear c7; by_cases c8 : ((rd_T96 l0_1 x11_1).f0).toList = a1.toList
      ·rw [if_pos c8] at H; have c8b0 : (((rd_T96 l0_1 x11_1).f0).toList == a1.toList) = true := beq_iff_eq.mpr c8; have c8b1 : (((rd_T96 l0_1 x11_1).f0).toList != a1.toList) = false := bne_eq_false_iff_eq.mpr c8; clear c8; simp only [Option.some.injEq, Prod.mk.injEq] at H; obtain ⟨rfl, rfl⟩ := H; have p318 : 0 ≤ (x11_1 : Int) := of_decide_eq_true u4_; have q318 : x11_1 < (l0_1.length : Int) := of_decide_eq_true u4_; obtain ⟨ad318, e318, hx318_0, hx318_1⟩ := at_T96 HR0_1.out x11_1 p318 q318; cases e318; replace hx318_0 := (HB.out.cell (World.block_lt_of_cell? w _ hx318_0)).trans hx318_0; replace hx318_1 := (HB.out.cell (World.block_lt_of_cell? w _ hx318_1)).trans hx318_1; replace p318 := eq_true p318; replace q318 := eq_true q318; go_wp2_with (first | ((with_reducible refine gate_dst (N := 7) rfl ?_); refine box_event ?hg (N := 7) ?hd (cs := #[.string (⟨#[]⟩ : ByteArray), .string (⟨#[]⟩ : ByteArray)]) (t := 96) ?hr ?_; (case hd => rfl); (case hg => rfl); (case hr => first | (go_simp; done) | (go_simp; rfl)); intro gb319 hg w9 hbox hb; have BK319 := am_ (hbox); have GW319 := am_ ((by rw [hg]; exact (below_size u59_) : w.heap.size ≤ gb319)); have GE319 := GW319; replace HB := am_ (below_step u59_ hb); have NB317_319 := am_ ((by rw [hg]; exact Nat.ne_of_lt (blk_lt (g := gb317) (o := .cells #[.string a0_0, .slice (some ad318) l0_1.length c0_1] 45 (0, 0)) u73_) : gb317 ≠ gb319)); have NB319_317 := am_ ((by rw [hg]; exact Nat.ne_of_gt (blk_lt (g := gb317) (o := .cells #[.string a0_0, .slice (some ad318) l0_1.length c0_1] 45 (0, 0)) u73_) : gb319 ≠ gb317)); replace BK317 := am_ (blk_below (g := gb317) (o := .cells #[.string a0_0, .slice (some ad318) l0_1.length c0_1] 45 (0, 0)) u73_ hb); clear hb hbox hg; have hnb10 := NB319_317.out; have hnc10 := NB317_319.out; have hcz11_0 : w9.cell? ⟨gb319, 0, none⟩ = some (.string (⟨#[]⟩ : ByteArray)) := (blk_cell BK319.out 0).trans rfl; have hcz11_1 : w9.cell? ⟨gb319, 1, none⟩ = some (.string (⟨#[]⟩ : ByteArray)) := (blk_cell BK319.out 1).trans rfl; have hfz11_0 := blk_frozen BK319.out 0; have hfz11_1 := blk_frozen BK319.out 1))
       go_ret2
       exact ⟨u5_, u116_⟩
      ·rw [if_neg c8] at H; have c8b0 : (((rd_T96 l0_1 x11_1).f0).toList == a1.toList) = false := beq_eq_false_iff_ne.mpr c8; have c8b1 : (((rd_T96 l0_1 x11_1).f0).toList != a1.toList) = true := bne_iff_ne.mpr c8; have H' := am_ H; clear H; have p318 : 0 ≤ (x11_1 : Int) := of_decide_eq_true u4_; have q318 : x11_1 < (l0_1.length : Int) := of_decide_eq_true u4_; obtain ⟨ad318, e318, hx318_0, hx318_1⟩ := at_T96 HR0_1.out x11_1 p318 q318; cases e318; replace hx318_0 := (HB.out.cell (World.block_lt_of_cell? w _ hx318_0)).trans hx318_0; replace hx318_1 := (HB.out.cell (World.block_lt_of_cell? w _ hx318_1)).trans hx318_1; replace p318 := eq_true p318; replace q318 := eq_true q318; go_wp2_with (first | ((with_reducible refine gate_dst (N := 7) rfl ?_); refine box_event ?hg (N := 7) ?hd (cs := #[.string (⟨#[]⟩ : ByteArray), .string (⟨#[]⟩ : ByteArray)]) (t := 96) ?hr ?_; (case hd => rfl); (case hg => rfl); (case hr => first | (go_simp; done) | (go_simp; rfl)); intro gb319 hg w12 hbox hb; have BK319 := am_ (hbox); have GW319 := am_ ((by rw [hg]; exact (below_size u59_) : w.heap.size ≤ gb319)); have GE319 := GW319; replace HB := am_ (below_step u59_ hb); have NB317_319 := am_ ((by rw [hg]; exact Nat.ne_of_lt (blk_lt (g := gb317) (o := .cells #[.string a0_0, .slice (some ad318) l0_1.length c0_1] 45 (0, 0)) u73_) : gb317 ≠ gb319)); have NB319_317 := am_ ((by rw [hg]; exact Nat.ne_of_gt (blk_lt (g := gb317) (o := .cells #[.string a0_0, .slice (some ad318) l0_1.length c0_1] 45 (0, 0)) u73_) : gb319 ≠ gb317)); replace BK317 := am_ (blk_below (g := gb317) (o := .cells #[.string a0_0, .slice (some ad318) l0_1.length c0_1] 45 (0, 0)) u73_ hb); clear hb hbox hg; have hnb13 := NB319_317.out; have hnc13 := NB317_319.out; have hcz14_0 : w12.cell? ⟨gb319, 0, none⟩ = some (.string (⟨#[]⟩ : ByteArray)) := (blk_cell BK319.out 0).trans rfl; have hcz14_1 : w12.cell? ⟨gb319, 1, none⟩ = some (.string (⟨#[]⟩ : ByteArray)) := (blk_cell BK319.out 1).trans rfl; have hfz14_0 := blk_frozen BK319.out 0; have hfz14_1 := blk_frozen BK319.out 1))
       go_roundg k1
       case measure => have := HK1.out; omega
       case rel => exact ⟨(wrap64 (x11_1 + 1)), u15_, H', ⟨u70_⟩, ⟨by (with_reducible repeat (first | refine blk_drewN ?_ _ | refine blk_drew ?_ | refine blk_alloc ?_ _)); refine blk_far ?_ NB317_319.out _; (with_reducible repeat (first | refine blk_drewN ?_ _ | refine blk_drew ?_ | refine blk_alloc ?_ _)); refine blk_far ?_ NB317_319.out _; (with_reducible repeat (first | refine blk_drewN ?_ _ | refine blk_drew ?_ | refine blk_alloc ?_ _)); exact BK317.out⟩, ⟨u116_⟩⟩
     ·exact u170_
    ·exact u168_
   ·rw [if_neg c5] at H; have c5b0 : decide (x11_1 < (l0_1.length : Int)) = false := decide_eq_false c5; clear c5; simp only [Option.some.injEq, Prod.mk.injEq] at H; obtain ⟨rfl, rfl⟩ := H; go_wp2; go_ret2
    exact ⟨u5_, u59_⟩

/-! ### impl_cell: function 78 -/
theorem impl_cell.fld79_1 (x0 : ByteArray) (x1 : Int) (x2 : Int) (w : World) : (Instr.field 79 (Value.agg #[Value.string x0, Value.int .i64 x1, Value.int .i64 x2]) 1).run Tryz.prog w = .ok (Value.int .i64 x1) w := by kernel_rfl
attribute [local go_sem] impl_cell.fld79_1
def impl_cell.f (k : Nat) (l0 : List (S79)) (a1_0 : ByteArray) (l1_1 : List (S96)) (a2 : ByteArray) (a3 : Int) : Option (ByteArray × Bool) := (impl_fieldOf.f k l0 a2).bind fun bt321 => (if bt321.2.1 = a3 then ((impl_DocText.f k a1_0 l1_1 a2).bind fun bt324 => (some (bt324.1, bt324.2))) else (some ((⟨#[]⟩ : ByteArray), false)))
theorem impl_cell.mono : ∀ a0 a1 a2 a3 a4 k, LeO (impl_cell.f k a0 a1 a2 a3 a4) (impl_cell.f (k + 1) a0 a1 a2 a3 a4) := by
 intro a0 a1 a2 a3 a4 k; unfold impl_cell.f
 repeat' first
   | (with_reducible exact impl_DocText.mono _ _ _ _)
   | (with_reducible exact impl_fieldOf.mono _ _ _)
   | (with_reducible exact LeO.refl _)
   | (with_reducible exact LeO.none _)
   | (with_reducible refine LeO.ite ?_ ?_)
   | (with_reducible refine LeO.bind ?_ (fun _ => ?_))
   | exact impl_DocText.mono _ _ _ _
   | exact impl_fieldOf.mono _ _ _
   | exact LeO.none _
   | refine LeO.ite ?_ ?_
   | refine LeO.bind ?_ (fun _ => ?_)
set_option maxHeartbeats 8000000 in
set_option maxRecDepth 100000 in
theorem impl_cell.calls (k : Nat) (A0 : Option Addr) (c0 : Nat) (l0 : List (S79)) (a1_0 : ByteArray) (A1_1 : Option Addr) (c1_1 : Nat) (l1_1 : List (S96)) (a2 : ByteArray) (a3 : Int) (r1 : ByteArray) (r2 : Bool) (w : World) (hr0 : Kd.C k79 w A0 l0.length l0) (hc0 : l0.length ≤ c0) (hr1_1 : Kd.C k96 w A1_1 l1_1.length l1_1) (hc1_1 : l1_1.length ≤ c1_1) (h : impl_cell.f k l0 a1_0 l1_1 a2 a3 = some (r1, r2)) :
  Calls Tryz.prog 78 #[.slice A0 l0.length c0, .agg #[.string a1_0, .slice A1_1 l1_1.length c1_1], .string a2, .int .i64 a3] w fun e w' => e = .returned (.tuple #[.string r1, .bool r2]) ∧ Below w.heap.size w w' := by
 have hu45 := Tryz.underlying45; have HR0 := am_ hr0; have HC0 := am_ hc0; clear hr0 hc0; have HR1_1 := am_ hr1_1; have HC1_1 := am_ hc1_1; clear hr1_1 hc1_1; have HB := am_ (Below.refl w.heap.size w); have H : ((impl_fieldOf.f k l0 a2).bind fun bt321 => (if bt321.2.1 = a3 then ((impl_DocText.f k a1_0 l1_1 a2).bind fun bt324 => (some (bt324.1, bt324.2))) else (some ((⟨#[]⟩ : ByteArray), false)))) = some (r1, r2) := h; clear h; replace H := Option.bind_eq_some_iff.mp H; obtain ⟨⟨t321, t322, t323⟩, A50, H⟩ := H; replace H : (if t322 = a3 then ((impl_DocText.f k a1_0 l1_1 a2).bind fun bt324 => (some (bt324.1, bt324.2))) else (some ((⟨#[]⟩ : ByteArray), false))) = some (r1, r2) := H; have A5 := am_ A50; clear A50; by_cases c6 : t322 = a3
 ·rw [if_pos c6] at H; have c6b0 : (t322 == a3) = true := beq_iff_eq.mpr c6; have c6b1 : (t322 != a3) = false := bne_eq_false_iff_eq.mpr c6; clear c6; replace H := Option.bind_eq_some_iff.mp H; obtain ⟨⟨t324, t325⟩, A70, H⟩ := H; replace H : (some (t324, t325)) = some (r1, r2) := H; have A7 := am_ A70; clear A70; simp only [Option.some.injEq, Prod.mk.injEq] at H; obtain ⟨rfl, rfl⟩ := H; go_enter Tryz.func78, Tryz.ntmps78
  go_wp2_with (first | ((with_reducible refine gate_dst (N := 5) rfl ?_); refine box_event ?hg (N := 5) ?hd (cs := #[.string a1_0, .slice A1_1 l1_1.length c1_1]) (t := 45) ?hr ?_; (case hd => rfl); (case hg => rfl); (case hr => first | (go_simp; done) | (go_simp; rfl)); intro gb320 hg w8 hbox hb; have BK320 := am_ (hbox); have GW320 := am_ ((by rw [hg]; exact (below_size u0_) : w.heap.size ≤ gb320)); have GE320 := GW320; replace HB := am_ (below_step u0_ hb); clear hb hbox hg) | ((with_reducible refine gate_callee (f := 60) rfl ?_); refine goesL_ (some 12) rfl rfl Tryz.func60 u8_ rfl #[.slice A0 l0.length c0, .string a2] rfl u2_ ?_; (with_reducible refine (impl_fieldOf.calls k _ _ l0 a2 t321 t322 t323 _ ?side1 ?side2 A5.out).mono ?_); (case side1 => repeat (first | exact (Kd.C_below HR0.out HB.out) | (with_reducible refine Kd.C_alloc ?_ _) | (with_reducible refine Kd.C_drewN ?_ _) | (with_reducible refine Kd.C_drew ?_))); (case side2 => exact HC0.out); rintro e w9 ⟨rfl, hb⟩; refine ⟨_, rfl, ?_⟩; replace BK320 := am_ (blk_below (g := gb320) (o := .cells #[.string a1_0, .slice A1_1 l1_1.length c1_1] 45 (0, 0)) u109_ hb); replace HB := am_ (below_step u77_ hb); (try clear hb); (try clear hb2); (try clear hk); (try clear hi); have hcz10_0 : w9.cell? ⟨gb320, 0, none⟩ = some (.string a1_0) := (blk_cell BK320.out 0).trans rfl; have hcz10_1 : w9.cell? ⟨gb320, 1, none⟩ = some (.slice A1_1 l1_1.length c1_1) := (blk_cell BK320.out 1).trans rfl; have hfz10_0 := blk_frozen BK320.out 0; have hfz10_1 := blk_frozen BK320.out 1) | ((with_reducible refine gate_callee (f := 97) rfl ?_); refine goesL_ (some 18) rfl rfl Tryz.func97 u8_ rfl #[.agg #[.string a1_0, .slice A1_1 l1_1.length c1_1], .string a2] rfl u2_ ?_; (with_reducible refine (impl_DocText.calls k a1_0 _ _ l1_1 a2 t324 t325 _ ?side1 ?side2 A7.out).mono ?_); (case side1 => repeat (first | exact (Kd.C_below HR1_1.out HB.out) | (with_reducible refine Kd.C_alloc ?_ _) | (with_reducible refine Kd.C_drewN ?_ _) | (with_reducible refine Kd.C_drew ?_))); (case side2 => exact HC1_1.out); rintro e w11 ⟨rfl, hb⟩; refine ⟨_, rfl, ?_⟩; replace BK320 := am_ (blk_below (g := gb320) (o := .cells #[.string a1_0, .slice A1_1 l1_1.length c1_1] 45 (0, 0)) u109_ hb); replace HB := am_ (below_step u77_ hb); (try clear hb); (try clear hb2); (try clear hk); (try clear hi)))
  go_ret2
  exact ⟨u5_, u77_⟩
 ·rw [if_neg c6] at H; have c6b0 : (t322 == a3) = false := beq_eq_false_iff_ne.mpr c6; have c6b1 : (t322 != a3) = true := bne_iff_ne.mpr c6; simp only [Option.some.injEq, Prod.mk.injEq] at H; obtain ⟨rfl, rfl⟩ := H; go_enter Tryz.func78, Tryz.ntmps78
  go_wp2_with (first | ((with_reducible refine gate_dst (N := 5) rfl ?_); refine box_event ?hg (N := 5) ?hd (cs := #[.string a1_0, .slice A1_1 l1_1.length c1_1]) (t := 45) ?hr ?_; (case hd => rfl); (case hg => rfl); (case hr => first | (go_simp; done) | (go_simp; rfl)); intro gb320 hg w12 hbox hb; have BK320 := am_ (hbox); have GW320 := am_ ((by rw [hg]; exact (below_size u0_) : w.heap.size ≤ gb320)); have GE320 := GW320; replace HB := am_ (below_step u0_ hb); clear hb hbox hg) | ((with_reducible refine gate_callee (f := 60) rfl ?_); refine goesL_ (some 12) rfl rfl Tryz.func60 u8_ rfl #[.slice A0 l0.length c0, .string a2] rfl u2_ ?_; (with_reducible refine (impl_fieldOf.calls k _ _ l0 a2 t321 t322 t323 _ ?side1 ?side2 A5.out).mono ?_); (case side1 => repeat (first | exact (Kd.C_below HR0.out HB.out) | (with_reducible refine Kd.C_alloc ?_ _) | (with_reducible refine Kd.C_drewN ?_ _) | (with_reducible refine Kd.C_drew ?_))); (case side2 => exact HC0.out); rintro e w13 ⟨rfl, hb⟩; refine ⟨_, rfl, ?_⟩; replace BK320 := am_ (blk_below (g := gb320) (o := .cells #[.string a1_0, .slice A1_1 l1_1.length c1_1] 45 (0, 0)) u109_ hb); replace HB := am_ (below_step u77_ hb); (try clear hb); (try clear hb2); (try clear hk); (try clear hi)))
  go_ret2
  exact ⟨u5_, u77_⟩

/-! ### slices_Sort_string_string: function 98 -/
def slices_Sort_string_string.f (a0 : List ByteArray) : Option (List ByteArray) := if a0.length < 4611686018427387904 then some (sortT a0) else none
theorem slices_Sort_string_string.calls (P0_ : Nat → Prop) (u9000_ : Value) (l0 : List ByteArray) (r : List ByteArray) (w0 w : World) (hB : Below w0.heap.size w0 w) (ho0 : Kd.R Kd.string 9 w w0.heap.size P0_ u9000_ l0) (h : slices_Sort_string_string.f l0 = some r) :
  Calls Tryz.prog 98 #[u9000_] w fun e w' => e = .returned (.tuple #[]) ∧ Kd.R Kd.string 9 w' w0.heap.size (fun k_ => (P0_ k_ ∨ w.heap.size ≤ k_)) u9000_ r ∧ Below w0.heap.size w0 w' ∧ Kept w w' (fun k_ => P0_ k_) := by
 unfold slices_Sort_string_string.f at h
 by_cases hs : l0.length < 4611686018427387904
 case neg => rw [if_neg hs] at h; exact absurd h u91_
 rw [if_pos hs] at h; have h := Option.some.inj h; subst h; have hl := sortT_length l0; rcases row_cases (e := 9) (enc := Value.string) (h1 := fun _ => rfl) ho0 with ⟨rfl, rfl⟩ | ⟨g, cap, cur, rfl, hb, hh, hlc, hm, hsz, hok, hc⟩
 ·refine (Go.Proofs.Tryz.slices_Sort_string_none none 0 w).mono ?_; rintro e w' ⟨rfl, rfl⟩; exact ⟨rfl, by rw [List.length_eq_zero_iff.1 hl]; exact Kd.R_nil _ _ _ _ _, hB, Kept.refl _ _⟩
 ·have hlt : g < w.heap.size := by
   rcases Nat.lt_or_ge g w.heap.size with h | h
   ·exact h
   ·rw [Array.getElem?_eq_none h] at hh; cases hh
  have hq := Go.Proofs.Tryz.slices_Sort_string g 0 cap (l0.map fun x : ByteArray => x.data.toList) w (row_holds hh (strs_cells hc)) hlt (by rw [List.length_map]; exact hs); rw [List.length_map] at hq; refine hq.mono ?_; rintro e w' ⟨rfl, n, os, rfl⟩; rw [putRow_strs]; obtain ⟨h1, h2, h3⟩ := row_put (e := 9) (enc := Value.string) (h1 := fun _ => rfl) hB hb hh (xs := sortT l0) (by rw [hl]; exact hlc) hm hsz hok n os (sortT l0) (by rw [hl]; exact hlc) (fun _ _ h => h); rw [hl] at h1; exact ⟨rfl, h1, h2, h3⟩

/-! ### slices_Compact_string_string: function 99 -/
def slices_Compact_string_string.f (a0 : List ByteArray) : Option (List ByteArray) := some (compactT a0)
theorem slices_Compact_string_string.calls (P0_ : Nat → Prop) (u9000_ : Value) (l0 : List ByteArray) (r : List ByteArray) (w0 w : World) (hB : Below w0.heap.size w0 w) (ho0 : Kd.R Kd.string 9 w w0.heap.size P0_ u9000_ l0) (h : slices_Compact_string_string.f l0 = some r) :
  Calls Tryz.prog 99 #[u9000_] w fun e w' => ∃ v0_ : Value, e = .returned v0_ ∧ Kd.R Kd.string 9 w' w0.heap.size (fun k_ => (P0_ k_ ∨ w.heap.size ≤ k_)) v0_ r ∧ Below w0.heap.size w0 w' ∧ Kept w w' (fun k_ => P0_ k_) := by
 have h := Option.some.inj h; subst h; have hl := compactT_length l0; rcases row_cases (e := 9) (enc := Value.string) (h1 := fun _ => rfl) ho0 with ⟨rfl, rfl⟩ | ⟨g, cap, cur, rfl, hb, hh, hlc, hm, hsz, hok, hc⟩
 ·refine (Go.Proofs.Tryz.slices_Compact_string_empty none 0 w).mono ?_; rintro e w' ⟨rfl, rfl⟩; exact ⟨_, rfl, Kd.R_nil _ _ _ _ _, hB, Kept.refl _ _⟩
 ·have hq := Go.Proofs.Tryz.slices_Compact_string g 0 cap (l0.map fun x : ByteArray => x.data.toList) w (row_holds hh (strs_cells hc)) (by rw [List.length_map]; unfold maxLen at hm; omega) (by rw [List.length_map]; exact hlc); rw [List.length_map] at hq; refine hq.mono ?_; rintro e w' ⟨rfl, q, rfl⟩; rw [putRow_strs]; have hlen : (Lib.compact (l0.map fun x : ByteArray => x.data.toList)).length = (compactT l0).length := by unfold compactT; rw [List.length_map]
  obtain ⟨h1, h2, h3⟩ := row_put (e := 9) (enc := Value.string) (h1 := fun _ => rfl) hB hb hh (xs := compactT l0) (Nat.le_trans hl hlc) hm hsz hok q #[] ((Lib.compact (l0.map fun x : ByteArray => x.data.toList) ++ List.replicate (l0.length - (Lib.compact (l0.map fun x : ByteArray => x.data.toList)).length) []).map textOf) (by rw [List.length_map, List.length_append, List.length_replicate]; omega) (fun j x hj => by
   have hjl : j < (compactT l0).length := by
    rcases Nat.lt_or_ge j (compactT l0).length with h | h
    ·exact h
    ·rw [List.getElem?_eq_none h] at hj; cases hj
   rw [List.map_append, List.getElem?_append_left (by rw [List.length_map]; omega)]; exact hj)
  rw [Go.Sort.grow_empty] at h1 h2 h3; rw [← hlen] at h1; exact ⟨_, rfl, h1, h2, h3⟩

end Go.Proofs.YtelcdhjdlgedeaaGreatDoor.PFnExactDocTags
