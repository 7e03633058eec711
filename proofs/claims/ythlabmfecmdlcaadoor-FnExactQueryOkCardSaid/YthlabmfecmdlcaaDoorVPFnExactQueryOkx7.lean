/- Contracts of Go functions that the law FnExactQueryOk reaches: each is told as a plain Lean function, with the walk that shows it; no condition beyond what each states. Written by a program of this session round the kit's printer. -/
import Derived.Test.YthlabmfecmdlcaaDoorVPFnExactQueryOkx0
import Derived.Test.YthlabmfecmdlcaaDoorVPFnExactQueryOkx6
namespace Go.Proofs.YthlabmfecmdlcaaDoor.PFnExactQueryOk
open Go.RowKit Go.Proofs.YthlabmfecmdlcaaDoorW.PrintWords Go.Proofs.YthlabmfecmdlcaaDoorW.PrintLast Go.Proofs.YthlabmfecmdlcaaDoorW.PrintMore
attribute [local go_sem] isSome_setCell run_str_geq run_str_leq max2_int min2_int max_two min_two max_three min_three max_four min_four   -- for this text's walks alone
set_option linter.unusedVariables false
set_option linter.unusedSimpArgs false

/-! ### impl_Fold: function 20 -/
def foldC (c : Int) : Int := if 65 ≤ c ∧ c ≤ 90 then c + 32 else c
def impl_Fold.f (a0 : ByteArray) : Option (ByteArray) := if a0.size ≤ 70368744177664 then some (strOfNums ((bytesOf a0).map foldC)) else none
/-- A row of bytes that a conversion made: its cells, and none is frozen. -/
def Buf8 (W : World) (B : Nat) (xs : List Int) : Prop := ∀ j, j < xs.length → W.cell? ⟨B, j, none⟩ = some (.int .u8 (xs.getD j 0)) ∧ W.frozen? ⟨B, j, none⟩ = false
theorem Buf8.set {W : World} {B : Nat} {xs : List Int} (h : Buf8 W B xs) (i : Nat) (v : Int) : Buf8 (W.setCell ⟨B, i, none⟩ (.int .u8 v)) B (xs.set i v) := by
 intro j hj; rw [List.length_set] at hj; have hc := h j hj; refine ⟨?_, by rw [World.frozen?_setCell]; exact hc.2⟩; by_cases e : i = j
 ·subst e; rw [World.cell?_setCell_same _ _ _ hc.1]; simp [List.getD_eq_getElem?_getD, hj]
 ·rw [World.cell?_setCell_other _ _ _ _ (by simp [e]), hc.1]; simp [List.getD_eq_getElem?_getD, List.getElem?_set_ne e]
theorem Buf8.drewN {W : World} {B : Nat} {xs : List Int} (h : Buf8 W B xs) (n : Nat) : Buf8 (W.drewN n) B xs := h
theorem bytes_buf (W : World) (e : TypeId) (s : ByteArray) : Buf8 (Lib.bytesWorld W e s) W.heap.size (bytesOf s) := by
 intro j hj; rw [bytesOf_length] at hj; constructor
 ·rw [Lib.bytesWorld_cell W e s j hj]; have h' : j < s.data.toList.length := by rw [data_length]; exact hj
  simp [bytesOf, List.getD_eq_getElem?_getD, List.getElem?_eq_getElem h']
 ·unfold World.frozen?
  rw [Lib.bytesWorld_at_new]; have h1 : s.size ≤ (Lib.bytesCells W e s).size := by
   unfold Lib.bytesCells
   rw [Array.size_append, Array.size_map]; exact Nat.le_add_right _ _
  show (decide ((Lib.bytesCells W e s).size ≤ j) && decide (j < (Lib.bytesCells W e s).size + 1)) = false
  rw [decide_eq_false u52_]; rfl
theorem fold_take (l : List Int) (k : Nat) (h : k < l.length) : (l.take (k + 1)).map foldC = (l.take k).map foldC ++ [foldC l[k]] := by
 rw [List.take_add_one, List.getElem?_eq_getElem h, List.map_append]; rfl
theorem fold_len (l : List Int) (k : Nat) (h : k ≤ l.length) : ((l.take k).map foldC).length = k := by
 rw [List.length_map, List.length_take]; omega
theorem fold_get (l : List Int) (k : Nat) (h : k < l.length) : ((l.take k).map foldC ++ l.drop k).getD k 0 = l[k] := by
 rw [List.getD_eq_getElem?_getD, List.getElem?_append_right (by rw [fold_len l k u52_]; exact Nat.le_refl _), fold_len l k u52_, Nat.sub_self, List.drop_eq_getElem_cons h]; rfl
theorem fold_set (l : List Int) (k : Nat) (h : k < l.length) (v : Int) (hv : foldC l[k] = v) : ((l.take k).map foldC ++ l.drop k).set k v = (l.take (k + 1)).map foldC ++ l.drop (k + 1) := by
 rw [List.set_append_right _ _ (by rw [fold_len l k u52_]; exact Nat.le_refl _), fold_len l k u52_, Nat.sub_self, fold_take l k h, List.drop_eq_getElem_cons h, List.append_assoc, hv]; rfl
theorem fold_keep (l : List Int) (k : Nat) (h : k < l.length) (hv : foldC l[k] = l[k]) : (l.take k).map foldC ++ l.drop k = (l.take (k + 1)).map foldC ++ l.drop (k + 1) := by
 rw [fold_take l k h, List.drop_eq_getElem_cons h, List.append_assoc, hv]; rfl
theorem fold_all (l : List Int) : (l.take l.length).map foldC ++ l.drop l.length = l.map foldC := by
 rw [List.take_length, List.drop_length, List.append_nil]
theorem upper_of (c : Int) : impl_upper.f c = some (decide (65 ≤ c ∧ c ≤ 90)) := by
 unfold impl_upper.f
 by_cases h : c ≥ 65
 ·rw [if_pos h]; congr 1; exact decide_eq_decide.2 u52_
 ·rw [if_neg h]; congr 1; symm; exact decide_eq_false u52_
set_option maxHeartbeats 2000000 in
theorem impl_Fold.calls (a0 : ByteArray) (r : ByteArray) (w : World) (h : impl_Fold.f a0 = some r) :
  Calls Tryd.prog 20 #[.string a0] w fun e w' => e = .returned (.string r) ∧ Below w.heap.size w w' := by
 unfold impl_Fold.f at h
 by_cases hs : a0.size ≤ 70368744177664
 case neg => rw [if_neg hs] at h; exact absurd h u51_
 rw [if_pos hs] at h; have HR := am_ (Option.some.inj h); clear h; have hlen := bytesOf_length a0; have HL := am_ hlen; clear hlen; have kb := print_bytes (P := Tryd.prog) 9 47 5 Tryd.underlying9 Tryd.underlying47 Tryd.underlying5 a0 w; go_enter Tryd.func20, Tryd.ntmps20
 go_wp2; go_loopw [10] (fun i wr => ∃ k : Nat, k ≤ a0.size ∧ i = .int .i64 k ∧ Aside0 (Buf8 wr w.heap.size (((bytesOf a0).take k).map foldC ++ (bytesOf a0).drop k)) ∧ Aside0 (Below w.heap.size w wr)) (fun i _ => a0.size - (intOf i).toNat)
 case atStart => exact ⟨0, Nat.zero_le _, rfl, ⟨bytes_buf w 5 a0⟩, ⟨bytes_below (Below.refl _ _) (Nat.le_refl _) 5 a0⟩⟩
 case round =>
  obtain ⟨k, hk, rfl, HF, HB⟩ := hrel; clear kb; by_cases hlt : k < a0.size
  ·have hkl : k < (bytesOf a0).length := by have := HL.out; omega
   have hbl : (((bytesOf a0).take k).map foldC ++ (bytesOf a0).drop k).length = a0.size := by
    rw [List.length_append, fold_len _ _ u52_, List.length_drop]; have := HL.out; omega
   obtain ⟨hc0, hf0⟩ := HF.out k (by rw [hbl]; exact hlt); rw [fold_get _ k hkl] at hc0; have hrange := bt_range a0 (k : Int); rw [← rd_bytesOf, show rd (bytesOf a0) (k : Int) = (bytesOf a0)[k] by unfold rd; simp [List.getD_eq_getElem?_getD, List.getElem?_eq_getElem hkl]] at hrange; obtain ⟨h0, h1⟩ := hrange; clear hbl; obtain ⟨c, hc⟩ : ∃ c, (bytesOf a0)[k] = c := ⟨_, rfl⟩; rw [hc] at hc0 h0 h1; have HC := am_ hc; clear hc; by_cases hu : 65 ≤ c ∧ c ≤ 90
   ·have hf := upper_of c; rw [decide_eq_true hu] at hf; have HU := am_ hf; clear hf; have HV : Aside0 (foldC (bytesOf a0)[k] = c + 97 - 65) := ⟨by rw [HC.out]; unfold foldC; rw [if_pos hu]; omega⟩; obtain ⟨hu0, hu1⟩ := hu; go_wp2_with (first | (go_at_call 31; (with_reducible refine (impl_upper.calls c true _ HU.out).mono ?_); rintro e w' ⟨rfl, ⟨nd, rfl⟩⟩))
    go_roundw
    case rel => exact ⟨k + 1, u52_, by go_num, ⟨by rw [← fold_set _ k hkl _ HV.out]; exact Buf8.drewN (Buf8.set HF.out k (c + 97 - 65)) _⟩, ⟨by first | exact pw_below_drewN (below_set HB.out (Nat.le_refl _)) _ | exact below_set (pw_below_drewN HB.out _) (Nat.le_refl _)⟩⟩
    case measure => simp [intOf]; omega
   ·have hf := upper_of c; rw [decide_eq_false hu] at hf; have HU := am_ hf; clear hf; have HV : Aside0 (foldC (bytesOf a0)[k] = (bytesOf a0)[k]) := ⟨by rw [HC.out]; unfold foldC; rw [if_neg hu]⟩; clear hu; go_wp2_with (first | (go_at_call 31; (with_reducible refine (impl_upper.calls c false _ HU.out).mono ?_); rintro e w' ⟨rfl, ⟨nd, rfl⟩⟩))
    go_roundw
    case rel => exact ⟨k + 1, u52_, by go_num, ⟨by rw [← fold_keep _ k hkl HV.out]; exact Buf8.drewN HF.out _⟩, ⟨pw_below_drewN HB.out _⟩⟩
    case measure => simp [intOf]; omega
  ·obtain rfl : k = a0.size := by omega
   have hx := HF.out; rw [← HL.out, fold_all] at hx; have kr := run_convert_bytes_arg (P := Tryd.prog) wr 47 5 Tryd.underlying47 Tryd.underlying5 w.heap.size 0 a0.size (grownCap w a0.size 0 5) ((bytesOf a0).map foldC) (by rw [List.length_map, HL.out]) (fun i hi => by rw [Nat.zero_add]; exact (hx i (by rw [List.length_map, HL.out]; exact hi)).1) 9 Tryd.underlying9; clear hx HF hk hlt; go_wp2; go_ret
   exact ⟨congrArg (fun s => Ending.returned (Value.string s)) HR.out, by first | exact HB.out | exact pw_below_drewN HB.out _⟩

/-! ### slices_Index_string_string: function 36 -/
def slices_Index_string_string.l0 : Nat → List ByteArray → ByteArray → Int → Int → Option (Int)
 | 0, _, _, _, _ => none
 | k + 1, x0, x1, x7, x8 => if x8 < x7 then (if 0 ≤ x8 then (if x8 < (x0.length : Int) then (if x1.toList = (rdOf ByteArray.empty x0 x8).toList then (some x8) else (slices_Index_string_string.l0 k x0 x1 x7 (wrap64 (x8 + 1)))) else (none)) else (none)) else (some (-1))
def slices_Index_string_string.f (k : Nat) (l0 : List ByteArray) (a1 : ByteArray) : Option (Int) := slices_Index_string_string.l0 k l0 a1 (l0.length : Int) 0
theorem slices_Index_string_string.mono_l : ∀ k, (∀ y0 y1 y2 y3, LeO (slices_Index_string_string.l0 k y0 y1 y2 y3) (slices_Index_string_string.l0 (k + 1) y0 y1 y2 y3))
 | 0 => fun _ _ _ _ r h => by simp [slices_Index_string_string.l0] at h
 | k + 1 => by
  have ih0 := slices_Index_string_string.mono_l k
  ·intro y0 y1 y2 y3; unfold slices_Index_string_string.l0
   repeat' first
   | (with_reducible exact ih0 _ _ _ _)
   | (with_reducible exact LeO.refl _)
   | (with_reducible exact LeO.none _)
   | (with_reducible refine LeO.ite ?_ ?_)
   | (with_reducible refine LeO.bind ?_ (fun _ => ?_))
   | exact ih0 _ _ _ _
   | exact LeO.none _
   | refine LeO.ite ?_ ?_
   | refine LeO.bind ?_ (fun _ => ?_)
theorem slices_Index_string_string.mono : ∀ a0 a1 k, LeO (slices_Index_string_string.f k a0 a1) (slices_Index_string_string.f (k + 1) a0 a1) := by
 intro a0 a1 k; have ih0 := slices_Index_string_string.mono_l k; unfold slices_Index_string_string.f
 repeat' first
   | (with_reducible exact ih0 _ _ _ _)
   | (with_reducible exact LeO.refl _)
   | (with_reducible exact LeO.none _)
   | (with_reducible refine LeO.ite ?_ ?_)
   | (with_reducible refine LeO.bind ?_ (fun _ => ?_))
   | exact ih0 _ _ _ _
   | exact LeO.none _
   | refine LeO.ite ?_ ?_
   | refine LeO.bind ?_ (fun _ => ?_)
set_option maxHeartbeats 8000000 in
set_option maxRecDepth 100000 in
theorem slices_Index_string_string.calls (k : Nat) (A0 : Option Addr) (c0 : Nat) (l0 : List ByteArray) (a1 : ByteArray) (r : Int) (w : World) (hr0 : Kd.C Kd.string w A0 l0.length l0) (hc0 : l0.length ≤ c0) (h : slices_Index_string_string.f k l0 a1 = some r) :
  Calls Tryd.prog 36 #[.slice A0 l0.length c0, .string a1] w fun e w' => e = .returned (.int .i64 r) ∧ Drawn0 w w' := by
 have HR0 := am_ hr0; have HC0 := am_ hc0; clear hr0 hc0; have H : (slices_Index_string_string.l0 k l0 a1 (l0.length : Int) 0) = some r := h; clear h; have H' := am_ H; clear H; go_enter Tryd.func36, Tryd.ntmps36
 go_wp2; go_loopg [8] k (fun kq v8 w' => ∃ (x8_1 : Int), v8 = .int .i64 x8_1 ∧ Aside0 (slices_Index_string_string.l0 kq l0 a1 (l0.length : Int) x8_1 = some r) ∧ Aside0 (kq ≤ k) ∧ Drawn0 w w')
 case atStart => exact ⟨(0), u20_, H', ⟨Nat.le_refl _⟩, u18_⟩
 case round =>
  clear H'; try clear p2
  obtain ⟨x8_1, rfl, HA, HK1, ⟨m1, rfl⟩⟩ := hrel; cases gk with
  | zero => exact absurd HA.out (by simp [slices_Index_string_string.l0])
  | succ k1 =>
   have H := HA.out; clear HA; simp only [slices_Index_string_string.l0] at H; by_cases c3 : x8_1 < (l0.length : Int)
   ·rw [if_pos c3] at H; have c3b0 : decide (x8_1 < (l0.length : Int)) = true := decide_eq_true c3; clear c3; by_cases c4 : 0 ≤ x8_1
    ·rw [if_pos c4] at H; have c4b0 : decide (0 ≤ x8_1) = true := decide_eq_true c4; clear c4; by_cases c5 : x8_1 < (l0.length : Int)
     ·rw [if_pos c5] at H; have c5b0 : decide (x8_1 < (l0.length : Int)) = true := decide_eq_true c5; clear c5; by_cases c6 : a1.toList = (rdOf ByteArray.empty l0 x8_1).toList
      ·rw [if_pos c6] at H; have c6b0 : (a1.toList == (rdOf ByteArray.empty l0 x8_1).toList) = true := beq_iff_eq.mpr c6; have c6b1 : (a1.toList != (rdOf ByteArray.empty l0 x8_1).toList) = false := bne_eq_false_iff_eq.mpr c6; clear c6; obtain rfl := Option.some.inj H; have p190 : 0 ≤ (x8_1 : Int) := of_decide_eq_true u7_; have q190 : x8_1 < (l0.length : Int) := of_decide_eq_true u7_; obtain ⟨ad190, e190, hx190_0⟩ := Kd.at_string HR0.out x8_1 p190 q190; cases e190; replace p190 := eq_true p190; replace q190 := eq_true q190; go_wp2; go_ret
       exact ⟨u10_, u18_⟩
      ·rw [if_neg c6] at H; have c6b0 : (a1.toList == (rdOf ByteArray.empty l0 x8_1).toList) = false := beq_eq_false_iff_ne.mpr c6; have c6b1 : (a1.toList != (rdOf ByteArray.empty l0 x8_1).toList) = true := bne_iff_ne.mpr c6; have H' := am_ H; clear H; have p190 : 0 ≤ (x8_1 : Int) := of_decide_eq_true u7_; have q190 : x8_1 < (l0.length : Int) := of_decide_eq_true u7_; obtain ⟨ad190, e190, hx190_0⟩ := Kd.at_string HR0.out x8_1 p190 q190; cases e190; replace p190 := eq_true p190; replace q190 := eq_true q190; go_wp2; go_roundg k1
       case measure => have := HK1.out; omega
       case rel => exact ⟨(wrap64 (x8_1 + 1)), u20_, H', ⟨u44_⟩, u18_⟩
     ·exact u81_
    ·exact u86_
   ·rw [if_neg c3] at H; have c3b0 : decide (x8_1 < (l0.length : Int)) = false := decide_eq_false c3; clear c3; obtain rfl := Option.some.inj H; go_wp2; go_ret
    exact ⟨u10_, u18_⟩

/-! ### slices_Contains_string_string: function 29 -/
def slices_Contains_string_string.f (k : Nat) (l0 : List ByteArray) (a1 : ByteArray) : Option (Bool) := (slices_Index_string_string.f k l0 a1).bind fun t191 => (some (decide (t191 ≥ 0)))
theorem slices_Contains_string_string.mono : ∀ a0 a1 k, LeO (slices_Contains_string_string.f k a0 a1) (slices_Contains_string_string.f (k + 1) a0 a1) := by
 intro a0 a1 k; unfold slices_Contains_string_string.f
 repeat' first
   | (with_reducible exact slices_Index_string_string.mono _ _ _)
   | (with_reducible exact LeO.refl _)
   | (with_reducible exact LeO.none _)
   | (with_reducible refine LeO.ite ?_ ?_)
   | (with_reducible refine LeO.bind ?_ (fun _ => ?_))
   | exact slices_Index_string_string.mono _ _ _
   | exact LeO.none _
   | refine LeO.ite ?_ ?_
   | refine LeO.bind ?_ (fun _ => ?_)
set_option maxHeartbeats 8000000 in
set_option maxRecDepth 100000 in
theorem slices_Contains_string_string.calls (k : Nat) (A0 : Option Addr) (c0 : Nat) (l0 : List ByteArray) (a1 : ByteArray) (r : Bool) (w : World) (hr0 : Kd.C Kd.string w A0 l0.length l0) (hc0 : l0.length ≤ c0) (h : slices_Contains_string_string.f k l0 a1 = some r) :
  Calls Tryd.prog 29 #[.slice A0 l0.length c0, .string a1] w fun e w' => e = .returned (.bool r) ∧ Drawn0 w w' := by
 have HR0 := am_ hr0; have HC0 := am_ hc0; clear hr0 hc0; have H : ((slices_Index_string_string.f k l0 a1).bind fun t191 => (some (decide (t191 ≥ 0)))) = some r := h; clear h; replace H := Option.bind_eq_some_iff.mp H; obtain ⟨t191, A30, H⟩ := H; replace H : (some (decide (t191 ≥ 0))) = some r := H; have A3 := am_ A30; clear A30; obtain rfl := Option.some.inj H; go_enter Tryd.func29, Tryd.ntmps29
 go_wp2_with (first | ((with_reducible refine gate_callee (f := 36) rfl ?_); refine goesL_ (some 7) rfl rfl Tryd.func36 u8_ rfl #[.slice A0 l0.length c0, .string a1] rfl u4_ ?_; (with_reducible refine (slices_Index_string_string.calls k _ _ l0 a1 t191 _ ?side1 ?side2 A3.out).mono ?_); (case side1 => repeat (first | exact HR0.out | (with_reducible refine Kd.C_alloc ?_ _) | (with_reducible refine Kd.C_drewN ?_ _) | (with_reducible refine Kd.C_drew ?_))); (case side2 => exact HC0.out); rintro e w' ⟨rfl, ⟨nd, rfl⟩⟩; refine ⟨_, rfl, ?_⟩))
 go_ret
 exact ⟨u10_, u18_⟩

/-! ### impl_Stem: function 18 -/
def impl_Stem.j0 : Nat → ByteArray → Int → Bool → Option (ByteArray)
 | 0, _, _, _ => none
 | k + 1, x0, x3, x28 => if x28 = true then (if 0 ≤ (wrap64 (x3 - 1)) then (if (wrap64 (x3 - 1)) ≤ (x0.size : Int) then ((slices_Contains_string_string.f k stopsL (x0.extract 0 ((wrap64 (x3 - 1)) : Int).toNat)).bind fun t193 => (if t193 = true then (some (⟨#[]⟩ : ByteArray)) else (some (x0.extract 0 ((wrap64 (x3 - 1)) : Int).toNat)))) else (none)) else (none)) else ((slices_Contains_string_string.f k stopsL x0).bind fun t194 => (if t194 = true then (some (⟨#[]⟩ : ByteArray)) else (some x0)))
def impl_Stem.f (k : Nat) (a0 : ByteArray) : Option (ByteArray) := (impl_Fold.f a0).bind fun t192 => (if 0 ≤ (mn (t192.size : Int) 12) then (if (mn (t192.size : Int) 12) ≤ (t192.size : Int) then (if ((t192.extract 0 ((mn (t192.size : Int) 12) : Int).toNat).size : Int) > 3 then (if 0 ≤ (wrap64 (((t192.extract 0 ((mn (t192.size : Int) 12) : Int).toNat).size : Int) - 1)) then (if (wrap64 (((t192.extract 0 ((mn (t192.size : Int) 12) : Int).toNat).size : Int) - 1)) < ((t192.extract 0 ((mn (t192.size : Int) 12) : Int).toNat).size : Int) then (if (bt (t192.extract 0 ((mn (t192.size : Int) 12) : Int).toNat) (wrap64 (((t192.extract 0 ((mn (t192.size : Int) 12) : Int).toNat).size : Int) - 1))) = 115 then (if 0 ≤ (wrap64 (((t192.extract 0 ((mn (t192.size : Int) 12) : Int).toNat).size : Int) - 2)) then (if (wrap64 (((t192.extract 0 ((mn (t192.size : Int) 12) : Int).toNat).size : Int) - 2)) < ((t192.extract 0 ((mn (t192.size : Int) 12) : Int).toNat).size : Int) then (impl_Stem.j0 k (t192.extract 0 ((mn (t192.size : Int) 12) : Int).toNat) ((t192.extract 0 ((mn (t192.size : Int) 12) : Int).toNat).size : Int) ((bt (t192.extract 0 ((mn (t192.size : Int) 12) : Int).toNat) (wrap64 (((t192.extract 0 ((mn (t192.size : Int) 12) : Int).toNat).size : Int) - 2))) != 115)) else (none)) else (none)) else (impl_Stem.j0 k (t192.extract 0 ((mn (t192.size : Int) 12) : Int).toNat) ((t192.extract 0 ((mn (t192.size : Int) 12) : Int).toNat).size : Int) false)) else (none)) else (none)) else (impl_Stem.j0 k (t192.extract 0 ((mn (t192.size : Int) 12) : Int).toNat) ((t192.extract 0 ((mn (t192.size : Int) 12) : Int).toNat).size : Int) false)) else (none)) else (none))
theorem impl_Stem.mono_l : ∀ k, (∀ y0 y1 y2, LeO (impl_Stem.j0 k y0 y1 y2) (impl_Stem.j0 (k + 1) y0 y1 y2))
 | 0 => fun _ _ _ r h => by simp [impl_Stem.j0] at h
 | k + 1 => by
  have ih0 := impl_Stem.mono_l k
  ·intro y0 y1 y2; unfold impl_Stem.j0
   repeat' first
   | (with_reducible exact ih0 _ _ _)
   | (with_reducible exact slices_Contains_string_string.mono _ _ _)
   | (with_reducible exact LeO.refl _)
   | (with_reducible exact LeO.none _)
   | (with_reducible refine LeO.ite ?_ ?_)
   | (with_reducible refine LeO.bind ?_ (fun _ => ?_))
   | exact ih0 _ _ _
   | exact slices_Contains_string_string.mono _ _ _
   | exact LeO.none _
   | refine LeO.ite ?_ ?_
   | refine LeO.bind ?_ (fun _ => ?_)
theorem impl_Stem.mono : ∀ a0 k, LeO (impl_Stem.f k a0) (impl_Stem.f (k + 1) a0) := by
 intro a0 k; have ih0 := impl_Stem.mono_l k; unfold impl_Stem.f
 repeat' first
   | (with_reducible exact ih0 _ _ _)
   | (with_reducible exact slices_Contains_string_string.mono _ _ _)
   | (with_reducible exact LeO.refl _)
   | (with_reducible exact LeO.none _)
   | (with_reducible refine LeO.ite ?_ ?_)
   | (with_reducible refine LeO.bind ?_ (fun _ => ?_))
   | exact ih0 _ _ _
   | exact slices_Contains_string_string.mono _ _ _
   | exact LeO.none _
   | refine LeO.ite ?_ ?_
   | refine LeO.bind ?_ (fun _ => ?_)
set_option maxHeartbeats 8000000 in
set_option maxRecDepth 100000 in
theorem impl_Stem.calls (k : Nat) (a0 : ByteArray) (r : ByteArray) (w : World) (hG : StopsIn w) (h : impl_Stem.f k a0 = some r) :
  Calls Tryd.prog 18 #[.string a0] w fun e w' => e = .returned (.string r) ∧ Below w.heap.size w w' := by
 have HG_ := am_ hG; clear hG; obtain ⟨AG_, cG_, hg1_, hg2_, hg3_⟩ := HG_.out.stops; have HG1_ := am_ hg1_; have HG2_ := am_ hg2_; have HG3_ := am_ hg3_; clear hg1_ hg2_ hg3_; have HB := am_ (Below.refl w.heap.size w); have H : ((impl_Fold.f a0).bind fun t192 => (if 0 ≤ (mn (t192.size : Int) 12) then (if (mn (t192.size : Int) 12) ≤ (t192.size : Int) then (if ((t192.extract 0 ((mn (t192.size : Int) 12) : Int).toNat).size : Int) > 3 then (if 0 ≤ (wrap64 (((t192.extract 0 ((mn (t192.size : Int) 12) : Int).toNat).size : Int) - 1)) then (if (wrap64 (((t192.extract 0 ((mn (t192.size : Int) 12) : Int).toNat).size : Int) - 1)) < ((t192.extract 0 ((mn (t192.size : Int) 12) : Int).toNat).size : Int) then (if (bt (t192.extract 0 ((mn (t192.size : Int) 12) : Int).toNat) (wrap64 (((t192.extract 0 ((mn (t192.size : Int) 12) : Int).toNat).size : Int) - 1))) = 115 then (if 0 ≤ (wrap64 (((t192.extract 0 ((mn (t192.size : Int) 12) : Int).toNat).size : Int) - 2)) then (if (wrap64 (((t192.extract 0 ((mn (t192.size : Int) 12) : Int).toNat).size : Int) - 2)) < ((t192.extract 0 ((mn (t192.size : Int) 12) : Int).toNat).size : Int) then (impl_Stem.j0 k (t192.extract 0 ((mn (t192.size : Int) 12) : Int).toNat) ((t192.extract 0 ((mn (t192.size : Int) 12) : Int).toNat).size : Int) ((bt (t192.extract 0 ((mn (t192.size : Int) 12) : Int).toNat) (wrap64 (((t192.extract 0 ((mn (t192.size : Int) 12) : Int).toNat).size : Int) - 2))) != 115)) else (none)) else (none)) else (impl_Stem.j0 k (t192.extract 0 ((mn (t192.size : Int) 12) : Int).toNat) ((t192.extract 0 ((mn (t192.size : Int) 12) : Int).toNat).size : Int) false)) else (none)) else (none)) else (impl_Stem.j0 k (t192.extract 0 ((mn (t192.size : Int) 12) : Int).toNat) ((t192.extract 0 ((mn (t192.size : Int) 12) : Int).toNat).size : Int) false)) else (none)) else (none))) = some r := h; clear h; replace H := Option.bind_eq_some_iff.mp H; obtain ⟨t192, A20, H⟩ := H; replace H : (if 0 ≤ (mn (t192.size : Int) 12) then (if (mn (t192.size : Int) 12) ≤ (t192.size : Int) then (if ((t192.extract 0 ((mn (t192.size : Int) 12) : Int).toNat).size : Int) > 3 then (if 0 ≤ (wrap64 (((t192.extract 0 ((mn (t192.size : Int) 12) : Int).toNat).size : Int) - 1)) then (if (wrap64 (((t192.extract 0 ((mn (t192.size : Int) 12) : Int).toNat).size : Int) - 1)) < ((t192.extract 0 ((mn (t192.size : Int) 12) : Int).toNat).size : Int) then (if (bt (t192.extract 0 ((mn (t192.size : Int) 12) : Int).toNat) (wrap64 (((t192.extract 0 ((mn (t192.size : Int) 12) : Int).toNat).size : Int) - 1))) = 115 then (if 0 ≤ (wrap64 (((t192.extract 0 ((mn (t192.size : Int) 12) : Int).toNat).size : Int) - 2)) then (if (wrap64 (((t192.extract 0 ((mn (t192.size : Int) 12) : Int).toNat).size : Int) - 2)) < ((t192.extract 0 ((mn (t192.size : Int) 12) : Int).toNat).size : Int) then (impl_Stem.j0 k (t192.extract 0 ((mn (t192.size : Int) 12) : Int).toNat) ((t192.extract 0 ((mn (t192.size : Int) 12) : Int).toNat).size : Int) ((bt (t192.extract 0 ((mn (t192.size : Int) 12) : Int).toNat) (wrap64 (((t192.extract 0 ((mn (t192.size : Int) 12) : Int).toNat).size : Int) - 2))) != 115)) else (none)) else (none)) else (impl_Stem.j0 k (t192.extract 0 ((mn (t192.size : Int) 12) : Int).toNat) ((t192.extract 0 ((mn (t192.size : Int) 12) : Int).toNat).size : Int) false)) else (none)) else (none)) else (impl_Stem.j0 k (t192.extract 0 ((mn (t192.size : Int) 12) : Int).toNat) ((t192.extract 0 ((mn (t192.size : Int) 12) : Int).toNat).size : Int) false)) else (none)) else (none)) = some r := H; have A2 := am_ A20; clear A20; obtain ⟨ji3, hji3⟩ : ∃ j_ : Int, (mn (t192.size : Int) 12) = j_ := ⟨_, rfl⟩; replace H : (if 0 ≤ (ji3) then (if (ji3) ≤ (t192.size : Int) then (if ((t192.extract 0 ((ji3) : Int).toNat).size : Int) > 3 then (if 0 ≤ (wrap64 (((t192.extract 0 ((ji3) : Int).toNat).size : Int) - 1)) then (if (wrap64 (((t192.extract 0 ((ji3) : Int).toNat).size : Int) - 1)) < ((t192.extract 0 ((ji3) : Int).toNat).size : Int) then (if (bt (t192.extract 0 ((ji3) : Int).toNat) (wrap64 (((t192.extract 0 ((ji3) : Int).toNat).size : Int) - 1))) = 115 then (if 0 ≤ (wrap64 (((t192.extract 0 ((ji3) : Int).toNat).size : Int) - 2)) then (if (wrap64 (((t192.extract 0 ((ji3) : Int).toNat).size : Int) - 2)) < ((t192.extract 0 ((ji3) : Int).toNat).size : Int) then (impl_Stem.j0 k (t192.extract 0 ((ji3) : Int).toNat) ((t192.extract 0 ((ji3) : Int).toNat).size : Int) ((bt (t192.extract 0 ((ji3) : Int).toNat) (wrap64 (((t192.extract 0 ((ji3) : Int).toNat).size : Int) - 2))) != 115)) else (none)) else (none)) else (impl_Stem.j0 k (t192.extract 0 ((ji3) : Int).toNat) ((t192.extract 0 ((ji3) : Int).toNat).size : Int) false)) else (none)) else (none)) else (impl_Stem.j0 k (t192.extract 0 ((ji3) : Int).toNat) ((t192.extract 0 ((ji3) : Int).toNat).size : Int) false)) else (none)) else (none)) = some r := by first | (rw [hji3] at H; exact H) | (simp only [hji3] at H ⊢; exact H)
 (try rw [hji3] at A2)
 (try (have hji3h : ji3 ≤ 12 := by (rw [← hji3]; unfold mn; (repeat' split) <;> omega)))
 (try (have hji3g : ji3 ≤ 64 := by omega))
 (try (have hji3l : 0 ≤ ji3 := by (rw [← hji3]; unfold mn; (repeat' split) <;> omega)))
 (try (have hji3m : 0 ≤ ji3 := by omega))
 have hji3_ : (if 12 < (t192.size : Int) then 12 else (t192.size : Int)) = ji3 := hji3; by_cases c4 : 0 ≤ (ji3)
 ·rw [if_pos c4] at H; have c4b0 := eq_true c4; have c4b1 : decide (0 ≤ (ji3)) = true := decide_eq_true c4; clear c4; by_cases c5 : (ji3) ≤ (t192.size : Int)
  ·rw [if_pos c5] at H; have c5b0 := eq_true c5; have c5b1 : decide ((ji3) ≤ (t192.size : Int)) = true := decide_eq_true c5; clear c5; have HC6 := am_ H; clear H; go_enter Tryd.func18, Tryd.ntmps18
   go_upto_region 3 with (first | ((with_reducible refine gate_callee (f := 20) rfl ?_); refine goesL_ (some 5) rfl rfl Tryd.func20 u8_ rfl #[.string a0] rfl u4_ ?_; (with_reducible refine (impl_Fold.calls a0 t192 _ A2.out).mono ?_); rintro e w7 ⟨rfl, hb⟩; refine ⟨_, rfl, ?_⟩; replace HB := am_ (below_step u1_ hb); (try clear hb); (try clear hb2); (try clear hk); (try clear hi)))
   (try simp only [Act.put, List.setIfInBounds_toArray, List.set_cons_zero, List.set_cons_succ])
   obtain ⟨y_, hy_⟩ : ∃ y_ : ByteArray, t192.extract 0 ((ji3) : Int).toNat = y_ := ⟨_, rfl⟩; simp only [hy_] at HC6 ⊢; clear hy_; go_upto_region 4 with (fail)
   (try simp only [Act.put, List.setIfInBounds_toArray, List.set_cons_zero, List.set_cons_succ])
   go_cut [28] (fun v28 wc => ∃ (kq : Nat) (x28_5 : Bool), v28 = .bool x28_5 ∧ Aside0 (impl_Stem.j0 kq y_ (y_.size : Int) x28_5 = some r) ∧ Aside0 (kq ≤ k) ∧ Aside0 (Below w.heap.size w wc))
   case first =>
    have H := HC6.out; clear HC6; by_cases c8 : (y_.size : Int) > 3
    ·rw [if_pos c8] at H; have c8b0 : decide (3 < (y_.size : Int)) = true := decide_eq_true c8; have c8b1 : decide (3 < y_.size) = true := decide_eq_true u52_; clear c8; (first | rw [c8b0] | (simp only [i64_w, i32_w]; rw [c8b0]) | skip)
     obtain ⟨ji9, hji9⟩ : ∃ j_ : Int, (wrap64 ((y_.size : Int) - 1)) = j_ := ⟨_, rfl⟩; replace H : (if 0 ≤ (ji9) then (if (ji9) < (y_.size : Int) then (if (bt y_ (ji9)) = 115 then (if 0 ≤ (wrap64 ((y_.size : Int) - 2)) then (if (wrap64 ((y_.size : Int) - 2)) < (y_.size : Int) then (impl_Stem.j0 k y_ (y_.size : Int) ((bt y_ (wrap64 ((y_.size : Int) - 2))) != 115)) else (none)) else (none)) else (impl_Stem.j0 k y_ (y_.size : Int) false)) else (none)) else (none)) = some r := by first | (rw [hji9] at H; exact H) | (simp only [hji9] at H ⊢; exact H)
     have hji9w : (IntKind.i64.wrap ((y_.size : Int) - 1)) = ji9 := (i64_w _).trans hji9; by_cases c10 : 0 ≤ (ji9)
     ·rw [if_pos c10] at H; have c10b0 : decide (0 ≤ (ji9)) = true := decide_eq_true c10; clear c10; by_cases c11 : (ji9) < (y_.size : Int)
      ·rw [if_pos c11] at H; have c11b0 : decide ((ji9) < (y_.size : Int)) = true := decide_eq_true c11; clear c11; by_cases c13 : (bt y_ (ji9)) = 115
       ·rw [if_pos c13] at H; have c13b0 : ((bt y_ (ji9)) == 115) = true := beq_iff_eq.mpr c13; have c13b1 : ((bt y_ (ji9)) != 115) = false := bne_eq_false_iff_eq.mpr c13; clear c13; obtain ⟨ji14, hji14⟩ : ∃ j_ : Int, (wrap64 ((y_.size : Int) - 2)) = j_ := ⟨_, rfl⟩; replace H : (if 0 ≤ (ji14) then (if (ji14) < (y_.size : Int) then (impl_Stem.j0 k y_ (y_.size : Int) ((bt y_ (ji14)) != 115)) else (none)) else (none)) = some r := by first | (rw [hji14] at H; exact H) | (simp only [hji14] at H ⊢; exact H)
        have hji14w : (IntKind.i64.wrap ((y_.size : Int) - 2)) = ji14 := (i64_w _).trans hji14; by_cases c15 : 0 ≤ (ji14)
        ·rw [if_pos c15] at H; have c15b0 : decide (0 ≤ (ji14)) = true := decide_eq_true c15; clear c15; by_cases c16 : (ji14) < (y_.size : Int)
         ·rw [if_pos c16] at H; have c16b0 : decide ((ji14) < (y_.size : Int)) = true := decide_eq_true c16; clear c16; have H' := am_ H; clear H; have p12 : 0 ≤ ((ji9) : Int) := of_decide_eq_true u7_; have q12 : (ji9) < (y_.size : Int) := of_decide_eq_true u7_; have hx12 := bt_at y_ (ji9); replace p12 := eq_true p12; replace q12 := eq_true q12; have p17 : 0 ≤ ((ji14) : Int) := of_decide_eq_true u7_; have q17 : (ji14) < (y_.size : Int) := of_decide_eq_true u7_; have hx17 := bt_at y_ (ji14); replace p17 := eq_true p17; replace q17 := eq_true q17; go_wp2; go_meet
          case rel => exact ⟨_, (((bt y_ (ji14)) != 115)), (by first | rfl | (simp; done) | (simp only [← hji3, ← hji14] <;> (first | rfl | simp)) | (simp [*]; done)), H', ⟨u46_⟩, ⟨u1_⟩⟩
         ·rw [if_neg c16] at H; exact absurd H u51_
        ·rw [if_neg c15] at H; exact absurd H u51_
       ·rw [if_neg c13] at H; have c13b0 : ((bt y_ (ji9)) == 115) = false := beq_eq_false_iff_ne.mpr c13; have c13b1 : ((bt y_ (ji9)) != 115) = true := bne_iff_ne.mpr c13; have H' := am_ H; clear H; have p12 : 0 ≤ ((ji9) : Int) := of_decide_eq_true u7_; have q12 : (ji9) < (y_.size : Int) := of_decide_eq_true u7_; have hx12 := bt_at y_ (ji9); replace p12 := eq_true p12; replace q12 := eq_true q12; go_wp2; go_meet
        case rel => exact ⟨_, (false), u20_, H', ⟨u46_⟩, ⟨u1_⟩⟩
      ·exact u83_
     ·rw [if_neg c10] at H; exact absurd H u51_
    ·rw [if_neg c8] at H; have c8b0 : decide (3 < (y_.size : Int)) = false := decide_eq_false c8; have c8b1 : decide (3 < y_.size) = false := decide_eq_false u52_; clear c8; (first | rw [c8b0] | (simp only [i64_w, i32_w]; rw [c8b0]) | skip)
     have H' := am_ H; clear H; go_wp2; go_meet
     case rel => exact ⟨_, (false), u20_, H', ⟨u46_⟩, ⟨u1_⟩⟩
   case rest =>
    clear HC6; try clear c1
    try clear p1
    try clear q1
    try clear hx1
    try clear c2
    try clear p2
    try clear c4
    try clear c4b0
    try clear c4b1
    try clear c5
    try clear c5b0
    try clear c5b1
    try clear p6
    try clear c8
    try clear c8b0
    try clear c8b1
    try clear c10
    try clear c10b0
    try clear c11
    try clear c11b0
    try clear p12
    try clear q12
    try clear hx12
    try clear c13
    try clear c13b0
    try clear c13b1
    try clear c15
    try clear c15b0
    try clear c16
    try clear c16b0
    try clear p17
    try clear q17
    try clear hx17
    try clear p12
    try clear p17
    try clear q12
    try clear q17
    obtain ⟨kq, x28_5, rfl, HA, HJ5, HB⟩ := hcut; cases kq with
    | zero => exact absurd HA.out (by simp [impl_Stem.j0])
    | succ kj5 =>
     have H := HA.out; clear HA; simp only [impl_Stem.j0] at H; by_cases c18 : x28_5 = true
     ·subst c18; rw [if_pos rfl] at H; obtain ⟨ji19, hji19⟩ : ∃ j_ : Int, (wrap64 ((y_.size : Int) - 1)) = j_ := ⟨_, rfl⟩; replace H : (if 0 ≤ (ji19) then (if (ji19) ≤ (y_.size : Int) then ((slices_Contains_string_string.f kj5 stopsL (y_.extract 0 ((ji19) : Int).toNat)).bind fun t193 => (if t193 = true then (some (⟨#[]⟩ : ByteArray)) else (some (y_.extract 0 ((ji19) : Int).toNat)))) else (none)) else (none)) = some r := by first | (rw [hji19] at H; exact H) | (simp only [hji19] at H ⊢; exact H)
      have hji19w : (IntKind.i64.wrap ((y_.size : Int) - 1)) = ji19 := (i64_w _).trans hji19; by_cases c20 : 0 ≤ (ji19)
      ·rw [if_pos c20] at H; have c20b0 := eq_true c20; have c20b1 : decide (0 ≤ (ji19)) = true := decide_eq_true c20; clear c20; by_cases c21 : (ji19) ≤ (y_.size : Int)
       ·rw [if_pos c21] at H; have c21b0 := eq_true c21; have c21b1 : decide ((ji19) ≤ (y_.size : Int)) = true := decide_eq_true c21; clear c21; replace H := Option.bind_eq_some_iff.mp H; obtain ⟨t193, A220, H⟩ := H; replace H : (if t193 = true then (some (⟨#[]⟩ : ByteArray)) else (some (y_.extract 0 ((ji19) : Int).toNat))) = some r := H; have A22 := am_ A220; clear A220; by_cases c23 : t193 = true
        ·subst c23; rw [if_pos rfl] at H; obtain rfl := Option.some.inj H; have hgx_ := (HB.out.cell (World.block_lt_of_cell? w _ HG1_.out)).trans HG1_.out; go_wp2_with (first | ((with_reducible refine gate_callee (f := 29) rfl ?_); refine goesL_ (some 35) rfl rfl Tryd.func29 u8_ rfl #[.slice AG_ stopsL.length cG_, .string (y_.extract 0 ((ji19) : Int).toNat)] rfl u60_ ?_; (refine (slices_Contains_string_string.calls kj5 _ _ stopsL (y_.extract 0 ((ji19) : Int).toNat) true _ ?side1 ?side2 A22.out).mono ?_); (case side1 => exact u43_); (case side2 => exact HG2_.out); rintro e w' ⟨rfl, ⟨nd, rfl⟩⟩; refine ⟨_, rfl, ?_⟩))
         go_ret
         exact ⟨u53_, u1_⟩
        ·replace c23 := Bool.eq_false_iff.mpr c23; subst c23; rw [if_neg (show ¬ (false = true) by decide)] at H; obtain rfl := Option.some.inj H; have hgx_ := (HB.out.cell (World.block_lt_of_cell? w _ HG1_.out)).trans HG1_.out; go_wp2_with (first | ((with_reducible refine gate_callee (f := 29) rfl ?_); refine goesL_ (some 35) rfl rfl Tryd.func29 u8_ rfl #[.slice AG_ stopsL.length cG_, .string (y_.extract 0 ((ji19) : Int).toNat)] rfl u60_ ?_; (refine (slices_Contains_string_string.calls kj5 _ _ stopsL (y_.extract 0 ((ji19) : Int).toNat) false _ ?side1 ?side2 A22.out).mono ?_); (case side1 => exact u43_); (case side2 => exact HG2_.out); rintro e w' ⟨rfl, ⟨nd, rfl⟩⟩; refine ⟨_, rfl, ?_⟩))
         go_ret
         exact ⟨u53_, u1_⟩
       ·rw [if_neg c21] at H; exact absurd H u51_
      ·rw [if_neg c20] at H; exact absurd H u51_
     ·replace c18 := Bool.eq_false_iff.mpr c18; subst c18; rw [if_neg (show ¬ (false = true) by decide)] at H; replace H := Option.bind_eq_some_iff.mp H; obtain ⟨t194, A240, H⟩ := H; replace H : (if t194 = true then (some (⟨#[]⟩ : ByteArray)) else (some y_)) = some r := H; have A24 := am_ A240; clear A240; by_cases c25 : t194 = true
      ·subst c25; rw [if_pos rfl] at H; obtain rfl := Option.some.inj H; have hgx_ := (HB.out.cell (World.block_lt_of_cell? w _ HG1_.out)).trans HG1_.out; go_wp2_with (first | ((with_reducible refine gate_callee (f := 29) rfl ?_); refine goesL_ (some 35) rfl rfl Tryd.func29 u8_ rfl #[.slice AG_ stopsL.length cG_, .string y_] rfl u66_ ?_; (refine (slices_Contains_string_string.calls kj5 _ _ stopsL y_ true _ ?side1 ?side2 A24.out).mono ?_); (case side1 => exact u43_); (case side2 => exact HG2_.out); rintro e w' ⟨rfl, ⟨nd, rfl⟩⟩; refine ⟨_, rfl, ?_⟩))
       go_ret
       exact ⟨u55_, u1_⟩
      ·replace c25 := Bool.eq_false_iff.mpr c25; subst c25; rw [if_neg (show ¬ (false = true) by decide)] at H; obtain rfl := Option.some.inj H; have hgx_ := (HB.out.cell (World.block_lt_of_cell? w _ HG1_.out)).trans HG1_.out; go_wp2_with (first | ((with_reducible refine gate_callee (f := 29) rfl ?_); refine goesL_ (some 35) rfl rfl Tryd.func29 u8_ rfl #[.slice AG_ stopsL.length cG_, .string y_] rfl u66_ ?_; (refine (slices_Contains_string_string.calls kj5 _ _ stopsL y_ false _ ?side1 ?side2 A24.out).mono ?_); (case side1 => exact u43_); (case side2 => exact HG2_.out); rintro e w' ⟨rfl, ⟨nd, rfl⟩⟩; refine ⟨_, rfl, ?_⟩))
       go_ret
       exact ⟨u55_, u1_⟩
  ·exact u81_
 ·exact u86_

end Go.Proofs.YthlabmfecmdlcaaDoor.PFnExactQueryOk
