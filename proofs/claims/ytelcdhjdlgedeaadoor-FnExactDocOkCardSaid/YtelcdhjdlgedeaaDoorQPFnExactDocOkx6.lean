/- Contracts of Go functions that the law FnExactDocOk reaches: each is told as a plain Lean function, with the walk that shows it; no condition beyond what each states. Written by a program of this session round the kit's printer. -/
import Derived.Test.YtelcdhjdlgedeaaDoorQPFnExactDocOkx0
namespace Go.Proofs.YtelcdhjdlgedeaaDoor.PFnExactDocOk
open Go.RowKit Go.Proofs.YtelcdhjdlgedeaaDoorW.PrintWords Go.Proofs.YtelcdhjdlgedeaaDoorW.PrintLast Go.Proofs.YtelcdhjdlgedeaaDoorW.PrintMore
attribute [local go_sem] run_str_geq run_str_leq max2_int min2_int max_two min_two max_three min_three max_four min_four   -- for this text's walks alone
set_option linter.unusedVariables false
set_option linter.unusedSimpArgs false

/-! ### spec_l2Add: function 114 -/
def spec_l2Add.l0 : Nat → List ByteArray → ByteArray → Int → Option (List ByteArray)
 | 0, _, _, _ => none
 | k + 1, x0, x1, x5 => if x5 < (x0.length : Int) then (if 0 ≤ x5 then (if (Op.bytesLess ((rdOf ByteArray.empty x0 x5).toList) x1.toList) = true then (spec_l2Add.l0 k x0 x1 (wrap64 (x5 + 1))) else (if (rdOf ByteArray.empty x0 x5).toList = x1.toList then (some x0) else ((some (([] : List ByteArray) : List ByteArray)).bind fun y174 => (if x5 ≤ (x0.length : Int) then ((some (x0.take (x5 : Int).toNat : List ByteArray)).bind fun y177 => (if y174.length + y177.length < 8796093022208 then ((some (y174 ++ y177 : List ByteArray)).bind fun y182 => ((some (([x1] : List ByteArray) : List ByteArray)).bind fun y185 => (if y182.length + y185.length < 8796093022208 then ((some (y182 ++ y185 : List ByteArray)).bind fun y188 => ((some (x0.drop (x5 : Int).toNat : List ByteArray)).bind fun y191 => (if y188.length + y191.length < 8796093022208 then (some (y188 ++ y191)) else (none)))) else (none)))) else (none))) else (none))))) else (none)) else ((some (([] : List ByteArray) : List ByteArray)).bind fun y199 => (if 0 ≤ x5 then (if x5 ≤ (x0.length : Int) then ((some (x0.take (x5 : Int).toNat : List ByteArray)).bind fun y202 => (if y199.length + y202.length < 8796093022208 then ((some (y199 ++ y202 : List ByteArray)).bind fun y207 => ((some (([x1] : List ByteArray) : List ByteArray)).bind fun y210 => (if y207.length + y210.length < 8796093022208 then ((some (y207 ++ y210 : List ByteArray)).bind fun y213 => ((some (x0.drop (x5 : Int).toNat : List ByteArray)).bind fun y216 => (if y213.length + y216.length < 8796093022208 then (some (y213 ++ y216)) else (none)))) else (none)))) else (none))) else (none)) else (none)))
def spec_l2Add.f (k : Nat) (l0 : List ByteArray) (a1 : ByteArray) : Option (List ByteArray) := spec_l2Add.l0 k l0 a1 0
theorem spec_l2Add.mono_l : ∀ k, (∀ y0 y1 y2, LeO (spec_l2Add.l0 k y0 y1 y2) (spec_l2Add.l0 (k + 1) y0 y1 y2))
 | 0 => fun _ _ _ r h => by simp [spec_l2Add.l0] at h
 | k + 1 => by
  have ih0 := spec_l2Add.mono_l k
  ·intro y0 y1 y2
   unfold spec_l2Add.l0
   repeat' first
   | (with_reducible exact ih0 _ _ _)
   | (with_reducible exact LeO.refl _)
   | (with_reducible exact LeO.none _)
   | (with_reducible refine LeO.ite ?_ ?_)
   | (with_reducible refine LeO.bind ?_ (fun _ => ?_))
   | exact ih0 _ _ _
   | exact LeO.none _
   | refine LeO.ite ?_ ?_
   | refine LeO.bind ?_ (fun _ => ?_)
theorem spec_l2Add.mono : ∀ a0 a1 k, LeO (spec_l2Add.f k a0 a1) (spec_l2Add.f (k + 1) a0 a1) := by
 intro a0 a1 k
 have ih0 := spec_l2Add.mono_l k
 unfold spec_l2Add.f
 repeat' first
   | (with_reducible exact ih0 _ _ _)
   | (with_reducible exact LeO.refl _)
   | (with_reducible exact LeO.none _)
   | (with_reducible refine LeO.ite ?_ ?_)
   | (with_reducible refine LeO.bind ?_ (fun _ => ?_))
   | exact ih0 _ _ _
   | exact LeO.none _
   | refine LeO.ite ?_ ?_
   | refine LeO.bind ?_ (fun _ => ?_)
def spec_l2Add.T6 : Bool × List (List Nat × List Nat) := (true, [([], []), ([], []), ([], []), ([1, 2], [1, 2]), ([0, 3], [0, 3]), ([], []), ([5], [5]), ([4, 6, 4], [4, 6]), ([], []), ([], []), ([8, 9], [8, 9]), ([7, 10, 7], [7, 10]), ([11, 11, 0, 1, 2, 3, 4, 5, 6, 7, 8, 9, 10, 11], [11])])
def spec_l2Add.B6 : List Nat := [0, 0, 0, 6, 15, 0, 32, 127, 0, 0, 768, 2047, 4095]
theorem spec_l2Add.tab6 : rtab .any (opsOf Tryd.f114 6) = spec_l2Add.T6 := by kernel_rfl
theorem spec_l2Add.bits6 : waitsOk spec_l2Add.T6.2 spec_l2Add.B6 = true := by kernel_rfl
set_option maxHeartbeats 8000000 in
set_option maxRecDepth 100000 in
theorem spec_l2Add.calls (k : Nat) (P0_ : Nat → Prop) (u9000_ : Value) (l0 : List ByteArray) (a1 : ByteArray) (r : List ByteArray) (w0 w : World) (hB : Below w0.heap.size w0 w) (ho0 : Kd.R Kd.string 9 w w0.heap.size P0_ u9000_ l0) (h : spec_l2Add.f k l0 a1 = some r) :
  Calls Tryd.prog 114 #[u9000_, .string a1] w fun e w' => ∃ v0_ : Value, e = .returned (v0_) ∧ Kd.R Kd.string 9 w' w0.heap.size (fun k_ => (P0_ k_ ∨ w.heap.size ≤ k_)) v0_ r ∧ Below w0.heap.size w0 w' ∧ Kept w w' (fun k_ => P0_ k_) := by
 have HO0 := Aside0.mk (show Kd.R Kd.string 9 w w0.heap.size (fun k_ => (P0_ k_ ∨ w.heap.size ≤ k_)) u9000_ l0 from Kd.R_mono ho0 (fun k_ hk => (.inl hk)))
 have HK := Aside0.mk (Kept.refl w (fun k_ => P0_ k_))
 have HW0 := Aside0.mk hB.size
 have HB := Aside0.mk hB
 clear hB
 have H : (spec_l2Add.l0 k l0 a1 0) = some r := h
 clear h
 have H' := Aside0.mk H
 clear H
 go_enter Tryd.func114, Tryd.ntmps114
 go_wp2
 go_loopg [5] k (fun kq v5 w' => ∃ (x5_1 : Int), v5 = .int .i64 x5_1 ∧ Aside0 (spec_l2Add.l0 kq l0 a1 x5_1 = some r) ∧ Aside0 (kq ≤ k) ∧ Aside0 (Kd.R Kd.string 9 w' w0.heap.size (fun k_ => (P0_ k_ ∨ w.heap.size ≤ k_)) u9000_ l0) ∧ Aside0 (Kept w w' (fun k_ => P0_ k_)) ∧ Aside0 (Below w0.heap.size w0 w'))
 case atStart => exact ⟨(0), u16_, H', ⟨Nat.le_refl _⟩, ⟨by (with_reducible repeat (first | apply Kd.R_alloc | apply Kd.R_drewN | apply Kd.R_drew)); exact HO0.out⟩, ⟨u13_⟩, ⟨u0_⟩⟩
 case round =>
  clear H'
  try clear c1
  try clear p2
  obtain ⟨x5_1, rfl, HA, HK1, HO_0, HK, HB⟩ := hrel
  cases gk with
  | zero => exact absurd HA.out (by simp [spec_l2Add.l0])
  | succ k1 =>
   have H := HA.out
   clear HA
   simp only [spec_l2Add.l0] at H
   by_cases c3 : x5_1 < (l0.length : Int)
   ·rw [if_pos c3] at H
    have c3b0 : decide (x5_1 < (l0.length : Int)) = true := decide_eq_true c3
    clear c3
    by_cases c4 : 0 ≤ x5_1
    ·rw [if_pos c4] at H
     have c4b0 : decide (0 ≤ x5_1) = true := decide_eq_true c4
     clear c4
     by_cases c5 : (Op.bytesLess ((rdOf ByteArray.empty l0 x5_1).toList) a1.toList) = true
     ·rw [if_pos c5] at H
      have c5b0 : (Op.bytesLess ((rdOf ByteArray.empty l0 x5_1).toList) a1.toList) = true := c5
      clear c5
      have H' := Aside0.mk H
      clear H
      obtain ⟨Ao6, co6, eo6⟩ := Kd.R_slice HO_0.out
      subst eo6
      have p172 : 0 ≤ (x5_1 : Int) := of_decide_eq_true u2_
      have q172 : x5_1 < (l0.length : Int) := of_decide_eq_true u2_
      obtain ⟨ad172, e172, hx172_0⟩ := Kd.at_string (Kd.R_reads' HO_0.out).2.2 x5_1 p172 q172
      cases e172
      replace p172 := eq_true p172
      replace q172 := eq_true q172
      go_wp2
      go_roundg k1
      case measure => have := HK1.out; omega
      case rel => exact ⟨(wrap64 (x5_1 + 1)), u16_, H', ⟨u65_⟩, ⟨u12_⟩, ⟨u13_⟩, ⟨u0_⟩⟩
     ·rw [if_neg c5] at H
      have c5b0 : (Op.bytesLess ((rdOf ByteArray.empty l0 x5_1).toList) a1.toList) = false := by simpa using c5
      clear c5
      by_cases c7 : (rdOf ByteArray.empty l0 x5_1).toList = a1.toList
      ·rw [if_pos c7] at H
       have c7b0 : ((rdOf ByteArray.empty l0 x5_1).toList == a1.toList) = true := beq_iff_eq.mpr c7
       have c7b1 : ((rdOf ByteArray.empty l0 x5_1).toList != a1.toList) = false := bne_eq_false_iff_eq.mpr c7
       clear c7
       obtain rfl := Option.some.inj H
       obtain ⟨Ao8, co8, eo8⟩ := Kd.R_slice HO_0.out
       subst eo8
       have p172 : 0 ≤ (x5_1 : Int) := of_decide_eq_true u2_
       have q172 : x5_1 < (l0.length : Int) := of_decide_eq_true u2_
       obtain ⟨ad172, e172, hx172_0⟩ := Kd.at_string (Kd.R_reads' HO_0.out).2.2 x5_1 p172 q172
       cases e172
       replace p172 := eq_true p172
       replace q172 := eq_true q172
       have p173 : 0 ≤ (x5_1 : Int) := of_decide_eq_true u2_
       have q173 : x5_1 < (l0.length : Int) := of_decide_eq_true u2_
       obtain ⟨ad173, e173, hx173_0⟩ := Kd.at_string (Kd.R_reads' HO_0.out).2.2 x5_1 p173 q173
       obtain rfl : ad172 = ad173 := (by injection e173)
       replace p173 := eq_true p173
       replace q173 := eq_true q173
       go_wp2
       go_ret
       exact ⟨_, u3_, u12_, u0_, u13_⟩
      ·rw [if_neg c7] at H
       have c7b0 : ((rdOf ByteArray.empty l0 x5_1).toList == a1.toList) = false := beq_eq_false_iff_ne.mpr c7
       have c7b1 : ((rdOf ByteArray.empty l0 x5_1).toList != a1.toList) = true := bne_iff_ne.mpr c7
       obtain ⟨y174, hy174⟩ : ∃ y_ : List ByteArray, y_ = (([] : List ByteArray)) := ⟨_, rfl⟩
       replace H : (if x5_1 ≤ (l0.length : Int) then ((some (l0.take (x5_1 : Int).toNat : List ByteArray)).bind fun y177 => (if y174.length + y177.length < 8796093022208 then ((some (y174 ++ y177 : List ByteArray)).bind fun y182 => ((some (([a1] : List ByteArray) : List ByteArray)).bind fun y185 => (if y182.length + y185.length < 8796093022208 then ((some (y182 ++ y185 : List ByteArray)).bind fun y188 => ((some (l0.drop (x5_1 : Int).toNat : List ByteArray)).bind fun y191 => (if y188.length + y191.length < 8796093022208 then (some (y188 ++ y191)) else (none)))) else (none)))) else (none))) else (none)) = some r := by first | (rw [hy174]; with_reducible exact H) | (have H2_ := (Option.bind_some _ _).symm.trans H; rw [hy174]; with_reducible exact H2_) | (have H2_ := (Option.bind_some _ _).symm.trans H; with_reducible exact H2_) | with_reducible exact H | (rw [hy174]; exact H) | exact H
       have Ny174 := Aside0.mk hy174
       clear hy174
       have c9b0 := eq_true (of_decide_eq_true u2_ : 0 ≤ x5_1)
       by_cases c10 : x5_1 ≤ (l0.length : Int)
       ·rw [if_pos c10] at H
        have c10b0 := eq_true c10
        have c10b1 : decide (x5_1 ≤ (l0.length : Int)) = true := decide_eq_true c10
        clear c10
        obtain ⟨y177, hy177⟩ : ∃ y_ : List ByteArray, y_ = (l0.take (x5_1 : Int).toNat) := ⟨_, rfl⟩
        replace H : (if y174.length + y177.length < 8796093022208 then ((some (y174 ++ y177 : List ByteArray)).bind fun y182 => ((some (([a1] : List ByteArray) : List ByteArray)).bind fun y185 => (if y182.length + y185.length < 8796093022208 then ((some (y182 ++ y185 : List ByteArray)).bind fun y188 => ((some (l0.drop (x5_1 : Int).toNat : List ByteArray)).bind fun y191 => (if y188.length + y191.length < 8796093022208 then (some (y188 ++ y191)) else (none)))) else (none)))) else (none)) = some r := by first | (rw [hy177]; with_reducible exact H) | (have H2_ := (Option.bind_some _ _).symm.trans H; rw [hy177]; with_reducible exact H2_) | (have H2_ := (Option.bind_some _ _).symm.trans H; with_reducible exact H2_) | with_reducible exact H | (rw [hy177]; exact H) | exact H
        have Ny177 := Aside0.mk hy177
        clear hy177
        by_cases c11 : y174.length + y177.length < 8796093022208
        ·rw [if_pos c11] at H
         have LMc11 := Aside0.mk c11
         clear c11
         obtain ⟨y182, hy182⟩ : ∃ y_ : List ByteArray, y_ = (y174 ++ y177) := ⟨_, rfl⟩
         replace H : ((some (([a1] : List ByteArray) : List ByteArray)).bind fun y185 => (if y182.length + y185.length < 8796093022208 then ((some (y182 ++ y185 : List ByteArray)).bind fun y188 => ((some (l0.drop (x5_1 : Int).toNat : List ByteArray)).bind fun y191 => (if y188.length + y191.length < 8796093022208 then (some (y188 ++ y191)) else (none)))) else (none))) = some r := by first | (rw [hy182]; with_reducible exact H) | (have H2_ := (Option.bind_some _ _).symm.trans H; rw [hy182]; with_reducible exact H2_) | (have H2_ := (Option.bind_some _ _).symm.trans H; with_reducible exact H2_) | with_reducible exact H | (rw [hy182]; exact H) | exact H
         have Ny182 := Aside0.mk hy182
         clear hy182
         obtain ⟨y185, hy185⟩ : ∃ y_ : List ByteArray, y_ = (([a1] : List ByteArray)) := ⟨_, rfl⟩
         replace H : (if y182.length + y185.length < 8796093022208 then ((some (y182 ++ y185 : List ByteArray)).bind fun y188 => ((some (l0.drop (x5_1 : Int).toNat : List ByteArray)).bind fun y191 => (if y188.length + y191.length < 8796093022208 then (some (y188 ++ y191)) else (none)))) else (none)) = some r := by first | (rw [hy185]; with_reducible exact H) | (have H2_ := (Option.bind_some _ _).symm.trans H; rw [hy185]; with_reducible exact H2_) | (have H2_ := (Option.bind_some _ _).symm.trans H; with_reducible exact H2_) | with_reducible exact H | (rw [hy185]; exact H) | exact H
         have Ny185 := Aside0.mk hy185
         clear hy185
         by_cases c12 : y182.length + y185.length < 8796093022208
         ·rw [if_pos c12] at H
          have LMc12 := Aside0.mk c12
          clear c12
          obtain ⟨y188, hy188⟩ : ∃ y_ : List ByteArray, y_ = (y182 ++ y185) := ⟨_, rfl⟩
          replace H : ((some (l0.drop (x5_1 : Int).toNat : List ByteArray)).bind fun y191 => (if y188.length + y191.length < 8796093022208 then (some (y188 ++ y191)) else (none))) = some r := by first | (rw [hy188]; with_reducible exact H) | (have H2_ := (Option.bind_some _ _).symm.trans H; rw [hy188]; with_reducible exact H2_) | (have H2_ := (Option.bind_some _ _).symm.trans H; with_reducible exact H2_) | with_reducible exact H | (rw [hy188]; exact H) | exact H
          have Ny188 := Aside0.mk hy188
          clear hy188
          have c13b0 := eq_true (of_decide_eq_true u2_ : 0 ≤ x5_1)
          have c14b0 := eq_true (of_decide_eq_true u2_ : x5_1 ≤ (l0.length : Int))
          obtain ⟨y191, hy191⟩ : ∃ y_ : List ByteArray, y_ = (l0.drop (x5_1 : Int).toNat) := ⟨_, rfl⟩
          replace H : (if y188.length + y191.length < 8796093022208 then (some (y188 ++ y191)) else (none)) = some r := by first | (rw [hy191]; with_reducible exact H) | (have H2_ := (Option.bind_some _ _).symm.trans H; rw [hy191]; with_reducible exact H2_) | (have H2_ := (Option.bind_some _ _).symm.trans H; with_reducible exact H2_) | with_reducible exact H | (rw [hy191]; exact H) | exact H
          have Ny191 := Aside0.mk hy191
          clear hy191
          by_cases c15 : y188.length + y191.length < 8796093022208
          ·rw [if_pos c15] at H
           have LMc15 := Aside0.mk c15
           clear c15
           obtain ⟨y196, hy196⟩ : ∃ y_ : List ByteArray, y_ = (y188 ++ y191) := ⟨_, rfl⟩
           replace H : (some y196) = some r := by first | (rw [hy196]; with_reducible exact H) | (have H2_ := (Option.bind_some _ _).symm.trans H; rw [hy196]; with_reducible exact H2_) | (have H2_ := (Option.bind_some _ _).symm.trans H; with_reducible exact H2_) | with_reducible exact H | (rw [hy196]; exact H) | exact H
           have Ny196 := Aside0.mk hy196
           clear hy196
           obtain rfl := Option.some.inj H
           obtain ⟨Ao16, co16, eo16⟩ := Kd.R_slice HO_0.out
           subst eo16
           have p172 : 0 ≤ (x5_1 : Int) := of_decide_eq_true u2_
           have q172 : x5_1 < (l0.length : Int) := of_decide_eq_true u2_
           obtain ⟨ad172, e172, hx172_0⟩ := Kd.at_string (Kd.R_reads' HO_0.out).2.2 x5_1 p172 q172
           cases e172
           replace p172 := eq_true p172
           replace q172 := eq_true q172
           have p173 : 0 ≤ (x5_1 : Int) := of_decide_eq_true u2_
           have q173 : x5_1 < (l0.length : Int) := of_decide_eq_true u2_
           obtain ⟨ad173, e173, hx173_0⟩ := Kd.at_string (Kd.R_reads' HO_0.out).2.2 x5_1 p173 q173
           obtain rfl : ad172 = ad173 := (by injection e173)
           replace p173 := eq_true p173
           replace q173 := eq_true q173
           try go_wp2
           have n0_ := Aside0.mk (Kd.R_drew HO_0.out)
           have n1_ := Aside0.mk (Kept.drew HK.out)
           have n2_ := Aside0.mk (below_drew1 HB.out)
           clear HO_0
           clear HK
           clear HB
           have HO_0 := n0_
           have HK := n1_
           have HB := n2_
           clear n0_ n1_ n2_
           have q18 : (x5_1 : Int) ≤ ((l0.length : Int) : Int) := of_decide_eq_true u2_
           obtain ⟨i018, hi018, _, hsz18, _⟩ := info_parts info9
           have hroom18 : l0.length ≤ co16 := (Kd.R_reads' HO_0.out).2.1
           have hC18 : Kd.F Kd.string _ _ (some ad172) l0.length l0 := (Kd.V_at (base := w0.heap.size) (Kd.R_V HO_0.out)).2.2
           have hcut18 := cut_to (P := Tryd.prog) 61 9 .i64 Tryd.underlying61 hi018 (some ad172) l0.length co16 x5_1 (of_decide_eq_true u2_) q18 hroom18
           have hr18 := Kd.F_take (m := (x5_1 : Int).toNat) hC18 (by omega)
           have hy18 : y177.length = (x5_1 : Int).toNat := (by rw [Ny177.out, List.length_take]; omega)
           rw [← Ny177.out] at hr18
           rw [← hy18] at hcut18
           have HO181 := Aside0.mk (show Kd.V Kd.string 9 _ w0.heap.size _ (.slice (some ad172) y177.length co16) y177 from Kd.V_mk (by omega) hr18)
           have HC181 := Aside0.mk (show y177.length ≤ co16 from by omega)
           clear hr18 hC18 hroom18 hi018 hsz18
           have KY18 := Aside0.mk hy18
           clear hy18
           replace q18 := eq_true q18
           have q19 : (x5_1 : Int) ≤ ((l0.length : Int) : Int) := of_decide_eq_true u2_
           obtain ⟨i019, hi019, _, hsz19, _⟩ := info_parts info9
           have hroom19 : l0.length ≤ co16 := (Kd.R_reads' HO_0.out).2.1
           have hC19 : Kd.F Kd.string _ _ (some ad172) l0.length l0 := (Kd.V_at (base := w0.heap.size) (Kd.R_V HO_0.out)).2.2
           have q019 : (0 : Int) ≤ (x5_1 : Int) := of_decide_eq_true u2_
           have hcut19 := cut_from (P := Tryd.prog) 61 9 .i64 Tryd.underlying61 hi019 1 hsz19 (some ad172) l0.length co16 x5_1 q019 q19
           have hr19 := Kd.F_cut (m := (x5_1 : Int).toNat) (c := co16) hC19 (by omega) hroom19
           obtain ⟨A19, hA19⟩ : ∃ A1, A1 = (if co16 = (x5_1 : Int).toNat then (some ad172) else ((some ad172) : Option Addr).map (·.add ((x5_1 : Int).toNat * 1))) := ⟨_, rfl⟩
           obtain ⟨c19, hc19⟩ : ∃ c1, c1 = co16 - (x5_1 : Int).toNat := ⟨_, rfl⟩
           have hy19 : y191.length = l0.length - (x5_1 : Int).toNat := (by rw [Ny191.out, List.length_drop] <;> omega)
           rw [show (l0).drop (x5_1 : Int).toNat = y191 from Ny191.out.symm] at hr19
           replace hr19 : Kd.F Kd.string _ _ A19 y191.length y191 := (by rw [hA19]; exact hr19)
           rw [← hy19, ← hA19, ← hc19] at hcut19
           have HO195 := Aside0.mk (show Kd.V Kd.string 9 _ w0.heap.size _ (.slice A19 y191.length c19) y191 from Kd.V_mk (by rw [hy19, hc19]; exact Nat.sub_le_sub_right hroom19 _) hr19)
           have HC195 := Aside0.mk (show y191.length ≤ c19 from by rw [hy19, hc19]; exact Nat.sub_le_sub_right hroom19 _)
           clear hr19 hC19 hroom19 hi019 hsz19 hc19
           have KY19 := Aside0.mk hy19
           have KA19 := Aside0.mk hA19
           clear hy19 hA19
           replace q19 := eq_true q19
           refine start_ (n := 13) (S := fun w' => True) (ds := []) #[false, false, false, false, false, false, false, false, false, false, false, false, false] u7_ rfl rfl trivial (fun hHeld => ?_); refine with_tabW spec_l2Add.tab6 spec_l2Add.bits6 (fun HT_ HW_ => ?_)
           generalize wr.drew = w17 at HO_0 HK HB HO181 HO195 hHeld ⊢
           refine pure_ (i := 1) (N := some 34) (v := ?_) (a' := ?_) #[false, true, false, false, false, false, false, false, false, false, false, false, false] rfl rfl (any_of HT_.out u7_) (fun _ _ _ h => h) (Or.inl ⟨u39_, ?_⟩) ?_ ?_
           rotate_left
           ·intro w'
            go_simp
            with_reducible rfl
           rotate_left
           ·simp only [Act.put, List.setIfInBounds_toArray, List.set_cons_zero, List.set_cons_succ, i64_w, i32_w]
            rfl
           refine pure_ (i := 2) (N := some 35) (v := ?_) (a' := ?_) #[false, true, true, false, false, false, false, false, false, false, false, false, false] rfl rfl (any_of HT_.out u7_) (fun _ _ _ h => h) (Or.inl ⟨u39_, ?_⟩) ?_ ?_
           rotate_left
           ·intro w'
            go_simp
            with_reducible rfl
           rotate_left
           ·simp only [Act.put, List.setIfInBounds_toArray, List.set_cons_zero, List.set_cons_succ, i64_w, i32_w]
            rfl
           refine pure_ (i := 3) (N := some 36) (v := ?_) (a' := ?_) #[false, true, true, true, false, false, false, false, false, false, false, false, false] rfl rfl (any_of HT_.out u7_) (fun _ _ _ h => h) (Or.inl ⟨u39_, ?_⟩) ?_ ?_
           rotate_left
           ·intro w'
            go_simp
            with_reducible rfl
           rotate_left
           ·simp only [Act.put, List.setIfInBounds_toArray, List.set_cons_zero, List.set_cons_succ, i64_w, i32_w]
            rfl
           refine pure_ (i := 5) (N := some 38) (v := ?_) (a' := ?_) #[false, true, true, true, false, true, false, false, false, false, false, false, false] rfl rfl (any_of HT_.out u7_) (fun _ _ _ h => h) (Or.inl ⟨u39_, ?_⟩) ?_ ?_
           rotate_left
           ·intro w'
            go_simp
            with_reducible rfl
           rotate_left
           ·simp only [Act.put, List.setIfInBounds_toArray, List.set_cons_zero, List.set_cons_succ, i64_w, i32_w]
            rfl
           refine pure_ (i := 8) (N := some 41) (v := ?_) (a' := ?_) #[false, true, true, true, false, true, false, false, true, false, false, false, false] rfl rfl (any_of HT_.out u7_) (fun _ _ _ h => h) (Or.inl ⟨u39_, ?_⟩) ?_ ?_
           rotate_left
           ·intro w'
            go_simp
            with_reducible rfl
           rotate_left
           ·simp only [Act.put, List.setIfInBounds_toArray, List.set_cons_zero, List.set_cons_succ, i64_w, i32_w]
            rfl
           refine pure_ (i := 9) (N := some 42) (v := ?_) (a' := ?_) #[false, true, true, true, false, true, false, false, true, true, false, false, false] rfl rfl (any_of HT_.out u7_) (fun _ _ _ h => h) (Or.inl ⟨u39_, ?_⟩) ?_ ?_
           rotate_left
           ·intro w'
            go_simp
            with_reducible rfl
           rotate_left
           ·simp only [Act.put, List.setIfInBounds_toArray, List.set_cons_zero, List.set_cons_succ, i64_w, i32_w]
            rfl
           refine pure_ (i := 10) (N := some 43) (v := ?_) (a' := ?_) #[false, true, true, true, false, true, false, false, true, true, true, false, false] rfl rfl (any_of HT_.out u7_) (fun _ _ _ h => h) (Or.inl ⟨u39_, ?_⟩) ?_ ?_
           rotate_left
           ·intro w'
            go_simp
            with_reducible rfl
           rotate_left
           ·simp only [Act.put, List.setIfInBounds_toArray, List.set_cons_zero, List.set_cons_succ, i64_w, i32_w]
            rfl
           refine join_ (σ := Value × Value × Value) 3 #[true, true, true, true, true, true, true, false, true, true, true, false, false] (fun s_ => [(33, s_.1), (37, s_.2.1), (39, s_.2.2)]) (fun s_ w' => (Kd.V Kd.string 9 w' w0.heap.size (fun k_ => (P0_ k_ ∨ w.heap.size ≤ k_) ∧ some k_ ≠ (s_.2.1 : Value).ownBlock ∧ some k_ ≠ (s_.2.2 : Value).ownBlock) (.slice (some ad172) y177.length co16) y177) ∧ (Kd.R Kd.string 9 w' w0.heap.size (fun k_ => (P0_ k_ ∨ w.heap.size ≤ k_) ∧ some k_ ≠ (s_.2.2 : Value).ownBlock ∧ some k_ ≠ (.slice (some ad172) l0.length co16 : Value).ownBlock) s_.2.1 y182) ∧ (Kd.R Kd.string 9 w' w0.heap.size (fun k_ => (P0_ k_ ∨ w.heap.size ≤ k_) ∧ some k_ ≠ (s_.2.1 : Value).ownBlock ∧ some k_ ≠ (.slice (some ad172) l0.length co16 : Value).ownBlock) s_.2.2 y185) ∧ (Kd.V Kd.string 9 w' w0.heap.size (fun k_ => (P0_ k_ ∨ w.heap.size ≤ k_) ∧ some k_ ≠ (s_.2.1 : Value).ownBlock ∧ some k_ ≠ (s_.2.2 : Value).ownBlock) (.slice A19 y191.length c19) y191) ∧ (Kd.R Kd.string 9 w' w0.heap.size (fun k_ => (P0_ k_ ∨ w.heap.size ≤ k_) ∧ some k_ ≠ (s_.2.1 : Value).ownBlock ∧ some k_ ≠ (s_.2.2 : Value).ownBlock) (.slice (some ad172) l0.length co16) l0) ∧ (Kept w w' (fun k_ => P0_ k_)) ∧ (Below w0.heap.size w0 w')) ?_ ?_
           rotate_left
           ·intro hCont
            refine two_ (i := 0) (j := 6) (Ni := some 33) (Nj := some 39) #[true, true, true, true, false, true, false, false, true, true, true, false, false] #[false, true, true, true, false, true, true, false, true, true, true, false, false] rfl rfl rfl rfl (two_of HT_.out u7_) u64_ u64_ (fun K hK => ?_) (fun K hK => ?_)
            ·skip
             refine Kd.R_lit_step Kd.string _ 9 ?hg (N := 33) ?hd (xs := ([] : List ByteArray)) (inner := []) (ok := fun _ => True) (okp := fun _ => True) ?hr ?hp (fun _ hk => hk) trivial (Below.refl _ _) (Nat.le_refl _) u75_ ?_; (case hd => rfl); (case hg => rfl); (case hr => first | (go_simp; done) | (go_simp; rfl)); (case hp => exact (Reps.none _ _))
             intro v175 w20 ho21 hb hg_ hnew_
             clear hg_ hnew_
             (first | rw [← Ny174.out] at ho21 | (simp only [Int.reduceToNat] at ho21; rw [← Ny174.out] at ho21))
             have n0_ := Aside0.mk (Kd.R_elder' u12_ (Kd.R_base ho21) hb)
             have n1_ := Aside0.mk (Kd.V_elder' u48_ (Kd.R_base ho21) hb)
             have n2_ := Aside0.mk (Kd.V_elder' u49_ (Kd.R_base ho21) hb)
             have n3_ := Aside0.mk (Kd.R_lower (Kd.R_new' (Kd.R_newM (M := fun k_ => (P0_ k_ ∨ w.heap.size ≤ k_)) ho21 u11_ (fun k_ h_ => .inr h_)) (Kd.R_lt u12_)) (below_size u0_))
             have n4_ := Aside0.mk (Kept.below (S := (fun k_ => P0_ k_)) u13_ hb)
             have n5_ := Aside0.mk (below_step u0_ hb)
             clear HO_0
             clear HO181
             clear HO195
             clear HK
             clear HB
             have HO_0 := n0_
             have HO181 := n1_
             have HO195 := n2_
             have HO176 := n3_
             have HK := n4_
             have HB := n5_
             clear n0_ n1_ n2_ n3_ n4_ n5_
             clear hb ho21
             refine hK.out _ _ trivial (fun hHeld => ?_)
             clear hK K
             refine norm_ (a' := ?_) ?_ ?_
             rotate_left
             ·show Act.put _ (some 33) _ = _
              simp only [Act.put, List.setIfInBounds_toArray, List.set_cons_zero, List.set_cons_succ, i64_w, i32_w]
              rfl
             refine two_ (i := 4) (j := 6) (Ni := some 37) (Nj := some 39) #[true, true, true, true, true, true, false, false, true, true, true, false, false] #[true, true, true, true, false, true, true, false, true, true, true, false, false] rfl rfl rfl rfl (two_of HT_.out u7_) u64_ u64_ (fun K hK => ?_) (fun K hK => ?_)
             ·skip
              refine Kd.R_append_rows_step Kd.string (w0 := w0) w0.heap.size u39_ (.tmp 33) (.tmp 36) 61 9 (.string ⟨#[]⟩) 16 rfl Tryd.underlying61 info9 rfl u64_ (by omega) v175 y174 y177 _ _ _ (fun k_ => (P0_ k_ ∨ w.heap.size ≤ k_) ∧ some k_ ≠ (.slice (some ad172) l0.length co16 : Value).ownBlock) (fun _ => False) rfl rfl ?aO ?aR (fun _ _ h => h) (fun _ h => h.elim) ?aF ?aB ?aS ?aL ?_
              (case aR => repeat (first | exact (Kd.V_reads' HO181.out).2.2 | (with_reducible refine Kd.C_alloc ?_ _) | (with_reducible refine Kd.C_drewN ?_ _) | (with_reducible refine Kd.C_drew ?_)))
              (case aB => exact u0_)
              (case aF => exact (fun k_ hk => ⟨(.inr (Nat.le_trans u11_ hk)), Kd.fresh' (Kd.R_lt u12_) k_ hk⟩))
              (case aO => exact (by (with_reducible repeat (first | apply Kd.R_alloc | apply Kd.R_drewN | apply Kd.R_drew)); exact Kd.R_mono HO176.out (fun _ hk => ⟨hk.1.1, hk.2⟩)))
              (case aS => exact (below_size u0_))
              (case aL => have := LMc11.out; omega)
              intro v183 w22 ho hb hg hat
              rw [← Ny182.out] at ho
              have n0_ := Aside0.mk (Kd.R_after (ok := (fun k_ => (P0_ k_ ∨ w.heap.size ≤ k_))) u12_ hg hat)
              have n1_ := Aside0.mk (Kd.V_afterv (ok := (fun k_ => (P0_ k_ ∨ w.heap.size ≤ k_))) u48_ hg hat)
              have n2_ := Aside0.mk (Kd.V_afterv (ok := (fun k_ => (P0_ k_ ∨ w.heap.size ≤ k_))) u49_ hg hat)
              have n3_ := Aside0.mk (hb)
              have n4_ := Aside0.mk (Kept.of_grown (S := (fun k_ => P0_ k_)) hg u13_ (fun k_ e_ => (HO176.out.1 k_ e_).1.1))
              have n5_ := Aside0.mk (ho)
              clear HO_0
              clear HO181
              clear HO195
              clear HB
              clear HK
              clear HO176
              have HO_0 := n0_
              have HO181 := n1_
              have HO195 := n2_
              have HB := n3_
              have HK := n4_
              have HO184 := n5_
              clear n0_ n1_ n2_ n3_ n4_ n5_
              clear ho hb hg hat
              refine hK.out _ _ trivial (fun hHeld => ?_)
              clear hK K
              refine norm_ (a' := ?_) ?_ ?_
              rotate_left
              ·show Act.put _ (some 37) _ = _
               simp only [Act.put, List.setIfInBounds_toArray, List.set_cons_zero, List.set_cons_succ, i64_w, i32_w]
               rfl
              refine one_ (i := 6) (N := some 39) #[true, true, true, true, true, true, true, false, true, true, true, false, false] rfl rfl (one_of HT_.out u7_) u64_ (fun K hK => ?_)
              refine Kd.R_lit_step Kd.string _ 9 ?hg (N := 39) ?hd (xs := ([a1] : List ByteArray)) (inner := [.string a1]) (ok := fun _ => True) (okp := fun _ => True) ?hr ?hp (fun _ hk => hk) trivial (Below.refl _ _) (Nat.le_refl _) u75_ ?_; (case hd => rfl); (case hg => rfl); (case hr => first | (go_simp; done) | (go_simp; rfl)); (case hp => exact (Reps.one (show Kd.M Kd.string _ _ _ a1 [.string a1] from rfl) (Reps.none _ _)))
              intro v186 w23 ho24 hb hg_ hnew_
              clear hg_ hnew_
              (first | rw [← Ny185.out] at ho24 | (simp only [Int.reduceToNat] at ho24; rw [← Ny185.out] at ho24))
              have n0_ := Aside0.mk (Kd.R_elder' u12_ (Kd.R_base ho24) hb)
              have n1_ := Aside0.mk (Kd.V_elder' u48_ (Kd.R_base ho24) hb)
              have n2_ := Aside0.mk (Kd.V_elder' u49_ (Kd.R_base ho24) hb)
              have n3_ := Aside0.mk (Kd.R_elder' (by (with_reducible repeat (first | apply Kd.R_alloc | apply Kd.R_drewN | apply Kd.R_drew)); exact HO184.out) (Kd.R_base ho24) hb)
              have n4_ := Aside0.mk (Kd.R_lower (Kd.R_new' (Kd.R_new' (Kd.R_newM (M := fun k_ => (P0_ k_ ∨ w.heap.size ≤ k_)) ho24 u11_ (fun k_ h_ => .inr h_)) (Kd.R_lt u12_)) (Kd.R_lt (by (with_reducible repeat (first | apply Kd.R_alloc | apply Kd.R_drewN | apply Kd.R_drew)); exact HO184.out))) (below_size u0_))
              have n5_ := Aside0.mk (Kept.below (S := (fun k_ => P0_ k_)) u13_ hb)
              have n6_ := Aside0.mk (below_step u0_ hb)
              clear HO_0
              clear HO181
              clear HO195
              clear HO184
              clear HK
              clear HB
              have HO_0 := n0_
              have HO181 := n1_
              have HO195 := n2_
              have HO184 := n3_
              have HO187 := n4_
              have HK := n5_
              have HB := n6_
              clear n0_ n1_ n2_ n3_ n4_ n5_ n6_
              clear hb ho24
              refine hK.out _ _ trivial (fun hHeld => ?_)
              clear hK K
              refine norm_ (a' := ?_) ?_ ?_
              rotate_left
              ·show Act.put _ (some 39) _ = _
               simp only [Act.put, List.setIfInBounds_toArray, List.set_cons_zero, List.set_cons_succ, i64_w, i32_w]
               rfl
              exact norm_ u67_ (hCont (v175, v183, v186) _ ⟨(by (with_reducible repeat (first | apply Kd.V_alloc | apply Kd.V_drewN | apply Kd.V_drew)); exact Kd.V_mono HO181.out (fun _ hk => ⟨hk.1.1, ⟨hk.1.2, hk.2⟩⟩)), (by (with_reducible repeat (first | apply Kd.R_alloc | apply Kd.R_drewN | apply Kd.R_drew)); exact Kd.R_mono HO184.out (fun _ hk => ⟨hk.1.1, ⟨hk.2, hk.1.2⟩⟩)), (by (with_reducible repeat (first | apply Kd.R_alloc | apply Kd.R_drewN | apply Kd.R_drew)); exact Kd.R_mono HO187.out (fun _ hk => ⟨hk.1.1.1, ⟨hk.2, hk.1.2⟩⟩)), (by (with_reducible repeat (first | apply Kd.V_alloc | apply Kd.V_drewN | apply Kd.V_drew)); exact Kd.V_mono HO195.out (fun _ hk => ⟨hk.1.1, ⟨hk.1.2, hk.2⟩⟩)), (by (with_reducible repeat (first | apply Kd.R_alloc | apply Kd.R_drewN | apply Kd.R_drew)); exact Kd.R_mono HO_0.out (fun _ hk => ⟨hk.1.1, ⟨hk.1.2, hk.2⟩⟩)), u13_, u0_⟩)
             ·skip
              refine Kd.R_lit_step Kd.string _ 9 ?hg (N := 39) ?hd (xs := ([a1] : List ByteArray)) (inner := [.string a1]) (ok := fun _ => True) (okp := fun _ => True) ?hr ?hp (fun _ hk => hk) trivial (Below.refl _ _) (Nat.le_refl _) u75_ ?_; (case hd => rfl); (case hg => rfl); (case hr => first | (go_simp; done) | (go_simp; rfl)); (case hp => exact (Reps.one (show Kd.M Kd.string _ _ _ a1 [.string a1] from rfl) (Reps.none _ _)))
              intro v186 w22 ho23 hb hg_ hnew_
              clear hg_ hnew_
              (first | rw [← Ny185.out] at ho23 | (simp only [Int.reduceToNat] at ho23; rw [← Ny185.out] at ho23))
              have n0_ := Aside0.mk (Kd.R_elder' u12_ (Kd.R_base ho23) hb)
              have n1_ := Aside0.mk (Kd.V_elder' u48_ (Kd.R_base ho23) hb)
              have n2_ := Aside0.mk (Kd.V_elder' u49_ (Kd.R_base ho23) hb)
              have n3_ := Aside0.mk (Kd.R_elder' (by (with_reducible repeat (first | apply Kd.R_alloc | apply Kd.R_drewN | apply Kd.R_drew)); exact HO176.out) (Kd.R_base ho23) hb)
              have n4_ := Aside0.mk (Kd.R_lower (Kd.R_new' (Kd.R_new' (Kd.R_newM (M := fun k_ => (P0_ k_ ∨ w.heap.size ≤ k_)) ho23 u11_ (fun k_ h_ => .inr h_)) (Kd.R_lt u12_)) (Kd.R_lt (by (with_reducible repeat (first | apply Kd.R_alloc | apply Kd.R_drewN | apply Kd.R_drew)); exact HO176.out))) (below_size u0_))
              have n5_ := Aside0.mk (Kept.below (S := (fun k_ => P0_ k_)) u13_ hb)
              have n6_ := Aside0.mk (below_step u0_ hb)
              clear HO_0
              clear HO181
              clear HO195
              clear HO176
              clear HK
              clear HB
              have HO_0 := n0_
              have HO181 := n1_
              have HO195 := n2_
              have HO176 := n3_
              have HO187 := n4_
              have HK := n5_
              have HB := n6_
              clear n0_ n1_ n2_ n3_ n4_ n5_ n6_
              clear hb ho23
              refine hK.out _ _ trivial (fun hHeld => ?_)
              clear hK K
              refine norm_ (a' := ?_) ?_ ?_
              rotate_left
              ·show Act.put _ (some 39) _ = _
               simp only [Act.put, List.setIfInBounds_toArray, List.set_cons_zero, List.set_cons_succ, i64_w, i32_w]
               rfl
              refine one_ (i := 4) (N := some 37) #[true, true, true, true, true, true, true, false, true, true, true, false, false] rfl rfl (one_of HT_.out u7_) u64_ (fun K hK => ?_)
              refine Kd.R_append_rows_step Kd.string (w0 := w0) w0.heap.size u39_ (.tmp 33) (.tmp 36) 61 9 (.string ⟨#[]⟩) 16 rfl Tryd.underlying61 info9 rfl u64_ (by omega) v175 y174 y177 _ _ _ (fun k_ => (P0_ k_ ∨ w.heap.size ≤ k_) ∧ some k_ ≠ (.slice (some ad172) l0.length co16 : Value).ownBlock ∧ some k_ ≠ (v186 : Value).ownBlock) (fun _ => False) rfl rfl ?aO ?aR (fun _ _ h => h) (fun _ h => h.elim) ?aF ?aB ?aS ?aL ?_
              (case aR => repeat (first | exact (Kd.V_reads' HO181.out).2.2 | (with_reducible refine Kd.C_alloc ?_ _) | (with_reducible refine Kd.C_drewN ?_ _) | (with_reducible refine Kd.C_drew ?_)))
              (case aB => exact u0_)
              (case aF => exact (fun k_ hk => ⟨(.inr (Nat.le_trans u11_ hk)), Kd.fresh' (Kd.R_lt u12_) k_ hk, Kd.fresh' (Kd.R_lt u57_) k_ hk⟩))
              (case aO => exact (by (with_reducible repeat (first | apply Kd.R_alloc | apply Kd.R_drewN | apply Kd.R_drew)); exact Kd.R_mono HO176.out (fun _ hk => ⟨hk.1.1.1, ⟨hk.1.2, hk.2⟩⟩)))
              (case aS => exact (below_size u0_))
              (case aL => have := LMc11.out; omega)
              intro v183 w24 ho hb hg hat
              rw [← Ny182.out] at ho
              have n0_ := Aside0.mk (Kd.R_after (ok := (fun k_ => (P0_ k_ ∨ w.heap.size ≤ k_) ∧ some k_ ≠ (v186 : Value).ownBlock)) (by (with_reducible repeat (first | apply Kd.R_alloc | apply Kd.R_drewN | apply Kd.R_drew)); exact Kd.R_mono HO_0.out (fun _ hk => ⟨⟨hk.1.1, hk.2⟩, hk.1.2⟩)) hg hat)
              have n1_ := Aside0.mk (Kd.V_afterv (ok := (fun k_ => (P0_ k_ ∨ w.heap.size ≤ k_) ∧ some k_ ≠ (v186 : Value).ownBlock)) (by (with_reducible repeat (first | apply Kd.V_alloc | apply Kd.V_drewN | apply Kd.V_drew)); exact Kd.V_mono HO181.out (fun _ hk => ⟨⟨hk.1.1, hk.2⟩, hk.1.2⟩)) hg hat)
              have n2_ := Aside0.mk (Kd.V_afterv (ok := (fun k_ => (P0_ k_ ∨ w.heap.size ≤ k_) ∧ some k_ ≠ (v186 : Value).ownBlock)) (by (with_reducible repeat (first | apply Kd.V_alloc | apply Kd.V_drewN | apply Kd.V_drew)); exact Kd.V_mono HO195.out (fun _ hk => ⟨⟨hk.1.1, hk.2⟩, hk.1.2⟩)) hg hat)
              have n3_ := Aside0.mk (Kd.R_after (ok := (fun k_ => (P0_ k_ ∨ w.heap.size ≤ k_) ∧ some k_ ≠ (.slice (some ad172) l0.length co16 : Value).ownBlock)) (by (with_reducible repeat (first | apply Kd.R_alloc | apply Kd.R_drewN | apply Kd.R_drew)); exact Kd.R_mono HO187.out (fun _ hk => ⟨⟨hk.1.1.1, hk.1.2⟩, hk.2⟩)) hg hat)
              have n4_ := Aside0.mk (hb)
              have n5_ := Aside0.mk (Kept.of_grown (S := (fun k_ => P0_ k_)) hg u13_ (fun k_ e_ => (HO176.out.1 k_ e_).1.1.1))
              have n6_ := Aside0.mk (ho)
              clear HO_0
              clear HO181
              clear HO195
              clear HO187
              clear HB
              clear HK
              clear HO176
              have HO_0 := n0_
              have HO181 := n1_
              have HO195 := n2_
              have HO187 := n3_
              have HB := n4_
              have HK := n5_
              have HO184 := n6_
              clear n0_ n1_ n2_ n3_ n4_ n5_ n6_
              clear ho hb hg hat
              refine hK.out _ _ trivial (fun hHeld => ?_)
              clear hK K
              refine norm_ (a' := ?_) ?_ ?_
              rotate_left
              ·show Act.put _ (some 37) _ = _
               simp only [Act.put, List.setIfInBounds_toArray, List.set_cons_zero, List.set_cons_succ, i64_w, i32_w]
               rfl
              exact norm_ u67_ (hCont (v175, v183, v186) _ ⟨(by (with_reducible repeat (first | apply Kd.V_alloc | apply Kd.V_drewN | apply Kd.V_drew)); exact Kd.V_mono HO181.out (fun _ hk => ⟨hk.1.1, ⟨hk.2, hk.1.2⟩⟩)), u80_, (by (with_reducible repeat (first | apply Kd.R_alloc | apply Kd.R_drewN | apply Kd.R_drew)); exact Kd.R_mono HO187.out (fun _ hk => ⟨hk.1.1, ⟨hk.2, hk.1.2⟩⟩)), (by (with_reducible repeat (first | apply Kd.V_alloc | apply Kd.V_drewN | apply Kd.V_drew)); exact Kd.V_mono HO195.out (fun _ hk => ⟨hk.1.1, ⟨hk.2, hk.1.2⟩⟩)), u66_, u13_, u0_⟩)
            ·skip
             refine Kd.R_lit_step Kd.string _ 9 ?hg (N := 39) ?hd (xs := ([a1] : List ByteArray)) (inner := [.string a1]) (ok := fun _ => True) (okp := fun _ => True) ?hr ?hp (fun _ hk => hk) trivial (Below.refl _ _) (Nat.le_refl _) u75_ ?_; (case hd => rfl); (case hg => rfl); (case hr => first | (go_simp; done) | (go_simp; rfl)); (case hp => exact (Reps.one (show Kd.M Kd.string _ _ _ a1 [.string a1] from rfl) (Reps.none _ _)))
             intro v186 w20 ho21 hb hg_ hnew_
             clear hg_ hnew_
             (first | rw [← Ny185.out] at ho21 | (simp only [Int.reduceToNat] at ho21; rw [← Ny185.out] at ho21))
             have n0_ := Aside0.mk (Kd.R_elder' u12_ (Kd.R_base ho21) hb)
             have n1_ := Aside0.mk (Kd.V_elder' u48_ (Kd.R_base ho21) hb)
             have n2_ := Aside0.mk (Kd.V_elder' u49_ (Kd.R_base ho21) hb)
             have n3_ := Aside0.mk (Kd.R_lower (Kd.R_new' (Kd.R_newM (M := fun k_ => (P0_ k_ ∨ w.heap.size ≤ k_)) ho21 u11_ (fun k_ h_ => .inr h_)) (Kd.R_lt u12_)) (below_size u0_))
             have n4_ := Aside0.mk (Kept.below (S := (fun k_ => P0_ k_)) u13_ hb)
             have n5_ := Aside0.mk (below_step u0_ hb)
             clear HO_0
             clear HO181
             clear HO195
             clear HK
             clear HB
             have HO_0 := n0_
             have HO181 := n1_
             have HO195 := n2_
             have HO187 := n3_
             have HK := n4_
             have HB := n5_
             clear n0_ n1_ n2_ n3_ n4_ n5_
             clear hb ho21
             refine hK.out _ _ trivial (fun hHeld => ?_)
             clear hK K
             refine norm_ (a' := ?_) ?_ ?_
             rotate_left
             ·show Act.put _ (some 39) _ = _
              simp only [Act.put, List.setIfInBounds_toArray, List.set_cons_zero, List.set_cons_succ, i64_w, i32_w]
              rfl
             refine one_ (i := 0) (N := some 33) #[true, true, true, true, false, true, true, false, true, true, true, false, false] rfl rfl (one_of HT_.out u7_) u64_ (fun K hK => ?_)
             refine Kd.R_lit_step Kd.string _ 9 ?hg (N := 33) ?hd (xs := ([] : List ByteArray)) (inner := []) (ok := fun _ => True) (okp := fun _ => True) ?hr ?hp (fun _ hk => hk) trivial (Below.refl _ _) (Nat.le_refl _) u75_ ?_; (case hd => rfl); (case hg => rfl); (case hr => first | (go_simp; done) | (go_simp; rfl)); (case hp => exact (Reps.none _ _))
             intro v175 w22 ho23 hb hg_ hnew_
             clear hg_ hnew_
             (first | rw [← Ny174.out] at ho23 | (simp only [Int.reduceToNat] at ho23; rw [← Ny174.out] at ho23))
             have n0_ := Aside0.mk (Kd.R_elder' u12_ (Kd.R_base ho23) hb)
             have n1_ := Aside0.mk (Kd.V_elder' u48_ (Kd.R_base ho23) hb)
             have n2_ := Aside0.mk (Kd.V_elder' u49_ (Kd.R_base ho23) hb)
             have n3_ := Aside0.mk (Kd.R_elder' u57_ (Kd.R_base ho23) hb)
             have n4_ := Aside0.mk (Kd.R_lower (Kd.R_new' (Kd.R_new' (Kd.R_newM (M := fun k_ => (P0_ k_ ∨ w.heap.size ≤ k_)) ho23 u11_ (fun k_ h_ => .inr h_)) (Kd.R_lt u12_)) (Kd.R_lt u57_)) (below_size u0_))
             have n5_ := Aside0.mk (Kept.below (S := (fun k_ => P0_ k_)) u13_ hb)
             have n6_ := Aside0.mk (below_step u0_ hb)
             clear HO_0
             clear HO181
             clear HO195
             clear HO187
             clear HK
             clear HB
             have HO_0 := n0_
             have HO181 := n1_
             have HO195 := n2_
             have HO187 := n3_
             have HO176 := n4_
             have HK := n5_
             have HB := n6_
             clear n0_ n1_ n2_ n3_ n4_ n5_ n6_
             clear hb ho23
             refine hK.out _ _ trivial (fun hHeld => ?_)
             clear hK K
             refine norm_ (a' := ?_) ?_ ?_
             rotate_left
             ·show Act.put _ (some 33) _ = _
              simp only [Act.put, List.setIfInBounds_toArray, List.set_cons_zero, List.set_cons_succ, i64_w, i32_w]
              rfl
             refine one_ (i := 4) (N := some 37) #[true, true, true, true, true, true, true, false, true, true, true, false, false] rfl rfl (one_of HT_.out u7_) u64_ (fun K hK => ?_)
             refine Kd.R_append_rows_step Kd.string (w0 := w0) w0.heap.size u39_ (.tmp 33) (.tmp 36) 61 9 (.string ⟨#[]⟩) 16 rfl Tryd.underlying61 info9 rfl u64_ (by omega) v175 y174 y177 _ _ _ (fun k_ => (P0_ k_ ∨ w.heap.size ≤ k_) ∧ some k_ ≠ (.slice (some ad172) l0.length co16 : Value).ownBlock ∧ some k_ ≠ (v186 : Value).ownBlock) (fun _ => False) rfl rfl ?aO ?aR (fun _ _ h => h) (fun _ h => h.elim) ?aF ?aB ?aS ?aL ?_
             (case aR => repeat (first | exact (Kd.V_reads' HO181.out).2.2 | (with_reducible refine Kd.C_alloc ?_ _) | (with_reducible refine Kd.C_drewN ?_ _) | (with_reducible refine Kd.C_drew ?_)))
             (case aB => exact u0_)
             (case aF => exact (fun k_ hk => ⟨(.inr (Nat.le_trans u11_ hk)), Kd.fresh' (Kd.R_lt u12_) k_ hk, Kd.fresh' (Kd.R_lt u57_) k_ hk⟩))
             (case aO => exact (by (with_reducible repeat (first | apply Kd.R_alloc | apply Kd.R_drewN | apply Kd.R_drew)); exact Kd.R_mono HO176.out (fun _ hk => ⟨hk.1.1.1, ⟨hk.1.2, hk.2⟩⟩)))
             (case aS => exact (below_size u0_))
             (case aL => have := LMc11.out; omega)
             intro v183 w24 ho hb hg hat
             rw [← Ny182.out] at ho
             have n0_ := Aside0.mk (Kd.R_after (ok := (fun k_ => (P0_ k_ ∨ w.heap.size ≤ k_) ∧ some k_ ≠ (v186 : Value).ownBlock)) u12_ hg hat)
             have n1_ := Aside0.mk (Kd.V_afterv (ok := (fun k_ => (P0_ k_ ∨ w.heap.size ≤ k_) ∧ some k_ ≠ (v186 : Value).ownBlock)) u48_ hg hat)
             have n2_ := Aside0.mk (Kd.V_afterv (ok := (fun k_ => (P0_ k_ ∨ w.heap.size ≤ k_) ∧ some k_ ≠ (v186 : Value).ownBlock)) u49_ hg hat)
             have n3_ := Aside0.mk (Kd.R_after (ok := (fun k_ => (P0_ k_ ∨ w.heap.size ≤ k_) ∧ some k_ ≠ (.slice (some ad172) l0.length co16 : Value).ownBlock)) (by (with_reducible repeat (first | apply Kd.R_alloc | apply Kd.R_drewN | apply Kd.R_drew)); exact Kd.R_mono HO187.out (fun _ hk => ⟨⟨hk.1.1.1, hk.1.2⟩, hk.2⟩)) hg hat)
             have n4_ := Aside0.mk (hb)
             have n5_ := Aside0.mk (Kept.of_grown (S := (fun k_ => P0_ k_)) hg u13_ (fun k_ e_ => (HO176.out.1 k_ e_).1.1.1))
             have n6_ := Aside0.mk (ho)
             clear HO_0
             clear HO181
             clear HO195
             clear HO187
             clear HB
             clear HK
             clear HO176
             have HO_0 := n0_
             have HO181 := n1_
             have HO195 := n2_
             have HO187 := n3_
             have HB := n4_
             have HK := n5_
             have HO184 := n6_
             clear n0_ n1_ n2_ n3_ n4_ n5_ n6_
             clear ho hb hg hat
             refine hK.out _ _ trivial (fun hHeld => ?_)
             clear hK K
             refine norm_ (a' := ?_) ?_ ?_
             rotate_left
             ·show Act.put _ (some 37) _ = _
              simp only [Act.put, List.setIfInBounds_toArray, List.set_cons_zero, List.set_cons_succ, i64_w, i32_w]
              rfl
             exact norm_ u67_ (hCont (v175, v183, v186) _ ⟨(by (with_reducible repeat (first | apply Kd.V_alloc | apply Kd.V_drewN | apply Kd.V_drew)); exact Kd.V_mono HO181.out (fun _ hk => ⟨hk.1.1, ⟨hk.2, hk.1.2⟩⟩)), u80_, (by (with_reducible repeat (first | apply Kd.R_alloc | apply Kd.R_drewN | apply Kd.R_drew)); exact Kd.R_mono HO187.out (fun _ hk => ⟨hk.1.1, ⟨hk.2, hk.1.2⟩⟩)), (by (with_reducible repeat (first | apply Kd.V_alloc | apply Kd.V_drewN | apply Kd.V_drew)); exact Kd.V_mono HO195.out (fun _ hk => ⟨hk.1.1, ⟨hk.2, hk.1.2⟩⟩)), u66_, u13_, u0_⟩)
           rintro ⟨v175, v183, v186⟩ w25 ⟨h0_, h1_, h2_, h3_, h4_, h5_, h6_⟩
           have n0_ : Aside0 (Kd.V Kd.string 9 w25 w0.heap.size (fun k_ => (P0_ k_ ∨ w.heap.size ≤ k_) ∧ some k_ ≠ (v183 : Value).ownBlock ∧ some k_ ≠ (v186 : Value).ownBlock) (.slice (some ad172) y177.length co16) y177) := ⟨h0_⟩
           have n1_ : Aside0 (Kd.R Kd.string 9 w25 w0.heap.size (fun k_ => (P0_ k_ ∨ w.heap.size ≤ k_) ∧ some k_ ≠ (v186 : Value).ownBlock ∧ some k_ ≠ (.slice (some ad172) l0.length co16 : Value).ownBlock) v183 y182) := ⟨h1_⟩
           have n2_ : Aside0 (Kd.R Kd.string 9 w25 w0.heap.size (fun k_ => (P0_ k_ ∨ w.heap.size ≤ k_) ∧ some k_ ≠ (v183 : Value).ownBlock ∧ some k_ ≠ (.slice (some ad172) l0.length co16 : Value).ownBlock) v186 y185) := ⟨h2_⟩
           have n3_ : Aside0 (Kd.V Kd.string 9 w25 w0.heap.size (fun k_ => (P0_ k_ ∨ w.heap.size ≤ k_) ∧ some k_ ≠ (v183 : Value).ownBlock ∧ some k_ ≠ (v186 : Value).ownBlock) (.slice A19 y191.length c19) y191) := ⟨h3_⟩
           have n4_ : Aside0 (Kd.R Kd.string 9 w25 w0.heap.size (fun k_ => (P0_ k_ ∨ w.heap.size ≤ k_) ∧ some k_ ≠ (v183 : Value).ownBlock ∧ some k_ ≠ (v186 : Value).ownBlock) (.slice (some ad172) l0.length co16) l0) := ⟨h4_⟩
           have n5_ : Aside0 (Kept w w25 (fun k_ => P0_ k_)) := ⟨h5_⟩
           have n6_ : Aside0 (Below w0.heap.size w0 w25) := ⟨h6_⟩
           clear HO_0
           clear HK
           clear HB
           clear h0_ h1_ h2_ h3_ h4_ h5_ h6_
           have HO181 := n0_
           have HO184 := n1_
           have HO187 := n2_
           have HO195 := n3_
           have HO_0 := n4_
           have HK := n5_
           have HB := n6_
           clear n0_ n1_ n2_ n3_ n4_ n5_ n6_
           have hHeld := trivial
           obtain ⟨Ao27, co27, eo27⟩ := Kd.R_slice HO187.out
           (first | subst eo27 | (injection eo27 with f1_ f2_ f3_; have f4_ := f1_.symm; have f5_ := f3_.symm; clear f1_ f2_ f3_; subst f4_; subst f5_))
           refine norm_ (a' := ?_) ?_ ?_
           rotate_left
           ·simp only [putAll, Act.put, List.setIfInBounds_toArray, List.set_cons_zero, List.set_cons_succ]
            rfl
           refine one_ (i := 7) (N := some 40) #[true, true, true, true, true, true, true, true, true, true, true, false, false] rfl rfl (one_of HT_.out u7_) u64_ (fun K hK => ?_)
           refine Kd.R_append_rows_step Kd.string (w0 := w0) w0.heap.size u39_ (.tmp 37) (.tmp 39) 61 9 (.string ⟨#[]⟩) 16 rfl Tryd.underlying61 info9 rfl u64_ (by omega) v183 y182 y185 _ _ _ (fun k_ => (P0_ k_ ∨ w.heap.size ≤ k_) ∧ some k_ ≠ (.slice (some ad172) l0.length co16 : Value).ownBlock ∧ some k_ ≠ (.slice Ao27 y185.length co27 : Value).ownBlock) (fun _ => False) rfl rfl ?aO ?aR (fun _ _ h => h) (fun _ h => h.elim) ?aF ?aB ?aS ?aL ?_
           (case aR => repeat (first | exact (Kd.R_reads' HO187.out).2.2 | (with_reducible refine Kd.C_alloc ?_ _) | (with_reducible refine Kd.C_drewN ?_ _) | (with_reducible refine Kd.C_drew ?_)))
           (case aB => exact u0_)
           (case aF => exact (fun k_ hk => ⟨(.inr (Nat.le_trans u11_ hk)), Kd.fresh' (Kd.R_lt u12_) k_ hk, Kd.fresh' (Kd.R_lt u57_) k_ hk⟩))
           (case aO => exact u80_)
           (case aS => exact (below_size u0_))
           (case aL => have := LMc12.out; omega)
           intro v189 w26 ho hb hg hat
           rw [← Ny188.out] at ho
           have n0_ := Aside0.mk (Kd.R_after (ok := (fun k_ => (P0_ k_ ∨ w.heap.size ≤ k_) ∧ some k_ ≠ (.slice Ao27 y185.length co27 : Value).ownBlock)) (by (with_reducible repeat (first | apply Kd.R_alloc | apply Kd.R_drewN | apply Kd.R_drew)); exact Kd.R_mono HO_0.out (fun _ hk => ⟨⟨hk.1, hk.2.2⟩, hk.2.1⟩)) hg hat)
           have n1_ := Aside0.mk (Kd.V_afterv (ok := (fun k_ => (P0_ k_ ∨ w.heap.size ≤ k_) ∧ some k_ ≠ (.slice Ao27 y185.length co27 : Value).ownBlock)) (by (with_reducible repeat (first | apply Kd.V_alloc | apply Kd.V_drewN | apply Kd.V_drew)); exact Kd.V_mono HO181.out (fun _ hk => ⟨⟨hk.1, hk.2.2⟩, hk.2.1⟩)) hg hat)
           have n2_ := Aside0.mk (Kd.V_afterv (ok := (fun k_ => (P0_ k_ ∨ w.heap.size ≤ k_) ∧ some k_ ≠ (.slice Ao27 y185.length co27 : Value).ownBlock)) (by (with_reducible repeat (first | apply Kd.V_alloc | apply Kd.V_drewN | apply Kd.V_drew)); exact Kd.V_mono HO195.out (fun _ hk => ⟨⟨hk.1, hk.2.2⟩, hk.2.1⟩)) hg hat)
           have n3_ := Aside0.mk (Kd.R_after (ok := (fun k_ => (P0_ k_ ∨ w.heap.size ≤ k_) ∧ some k_ ≠ (.slice (some ad172) l0.length co16 : Value).ownBlock)) (by (with_reducible repeat (first | apply Kd.R_alloc | apply Kd.R_drewN | apply Kd.R_drew)); exact Kd.R_mono HO187.out (fun _ hk => ⟨⟨hk.1, hk.2.2⟩, hk.2.1⟩)) hg hat)
           have n4_ := Aside0.mk (hb)
           have n5_ := Aside0.mk (Kept.of_grown (S := (fun k_ => P0_ k_)) hg u13_ (fun k_ e_ => (HO184.out.1 k_ e_).1))
           have n6_ := Aside0.mk (ho)
           clear HO_0
           clear HO181
           clear HO195
           clear HO187
           clear HB
           clear HK
           clear HO184
           have HO_0 := n0_
           have HO181 := n1_
           have HO195 := n2_
           have HO187 := n3_
           have HB := n4_
           have HK := n5_
           have HO190 := n6_
           clear n0_ n1_ n2_ n3_ n4_ n5_ n6_
           clear ho hb hg hat
           refine hK.out _ _ trivial (fun hHeld => ?_)
           clear hK K
           refine norm_ (a' := ?_) ?_ ?_
           rotate_left
           ·show Act.put _ (some 40) _ = _
            simp only [Act.put, List.setIfInBounds_toArray, List.set_cons_zero, List.set_cons_succ, i64_w, i32_w]
            rfl
           refine one_ (i := 11) (N := some 44) #[true, true, true, true, true, true, true, true, true, true, true, true, false] rfl rfl (one_of HT_.out u7_) u64_ (fun K hK => ?_)
           refine Kd.R_append_rows_step Kd.string (w0 := w0) w0.heap.size u39_ (.tmp 40) (.tmp 43) 61 9 (.string ⟨#[]⟩) 16 rfl Tryd.underlying61 info9 rfl u64_ (by omega) v189 y188 y191 _ _ _ (fun k_ => (P0_ k_ ∨ w.heap.size ≤ k_) ∧ some k_ ≠ (.slice (some ad172) l0.length co16 : Value).ownBlock ∧ some k_ ≠ (.slice Ao27 y185.length co27 : Value).ownBlock) (fun _ => False) rfl rfl ?aO ?aR (fun _ _ h => h) (fun _ h => h.elim) ?aF ?aB ?aS ?aL ?_
           (case aR => repeat (first | exact (Kd.V_reads' HO195.out).2.2 | (with_reducible refine Kd.C_alloc ?_ _) | (with_reducible refine Kd.C_drewN ?_ _) | (with_reducible refine Kd.C_drew ?_)))
           (case aB => exact u0_)
           (case aF => exact (fun k_ hk => ⟨(.inr (Nat.le_trans u11_ hk)), Kd.fresh' (Kd.R_lt u12_) k_ hk, Kd.fresh' (Kd.R_lt u57_) k_ hk⟩))
           (case aO => exact (by (with_reducible repeat (first | apply Kd.R_alloc | apply Kd.R_drewN | apply Kd.R_drew)); exact HO190.out))
           (case aS => exact (below_size u0_))
           (case aL => have := LMc15.out; omega)
           intro v197 w28 ho hb hg hat
           rw [← Ny196.out] at ho
           have n0_ := Aside0.mk (Kd.R_after (ok := (fun k_ => (P0_ k_ ∨ w.heap.size ≤ k_) ∧ some k_ ≠ (.slice Ao27 y185.length co27 : Value).ownBlock)) u12_ hg hat)
           have n1_ := Aside0.mk (Kd.V_afterv (ok := (fun k_ => (P0_ k_ ∨ w.heap.size ≤ k_) ∧ some k_ ≠ (.slice Ao27 y185.length co27 : Value).ownBlock)) u48_ hg hat)
           have n2_ := Aside0.mk (Kd.V_afterv (ok := (fun k_ => (P0_ k_ ∨ w.heap.size ≤ k_) ∧ some k_ ≠ (.slice Ao27 y185.length co27 : Value).ownBlock)) u49_ hg hat)
           have n3_ := Aside0.mk (Kd.R_after (ok := (fun k_ => (P0_ k_ ∨ w.heap.size ≤ k_) ∧ some k_ ≠ (.slice (some ad172) l0.length co16 : Value).ownBlock)) u57_ hg hat)
           have n4_ := Aside0.mk (hb)
           have n5_ := Aside0.mk (Kept.of_grown (S := (fun k_ => P0_ k_)) hg u13_ (fun k_ e_ => (HO190.out.1 k_ e_).1))
           have n6_ := Aside0.mk (ho)
           clear HO_0
           clear HO181
           clear HO195
           clear HO187
           clear HB
           clear HK
           clear HO190
           have HO_0 := n0_
           have HO181 := n1_
           have HO195 := n2_
           have HO187 := n3_
           have HB := n4_
           have HK := n5_
           have HO198 := n6_
           clear n0_ n1_ n2_ n3_ n4_ n5_ n6_
           clear ho hb hg hat
           refine hK.out _ _ trivial (fun hHeld => ?_)
           clear hK K
           refine norm_ (a' := ?_) ?_ ?_
           rotate_left
           ·show Act.put _ (some 44) _ = _
            simp only [Act.put, List.setIfInBounds_toArray, List.set_cons_zero, List.set_cons_succ, i64_w, i32_w]
            rfl
           refine pure_ (i := 12) (N := some 4) (v := ?_) (a' := ?_) #[true, true, true, true, true, true, true, true, true, true, true, true, true] rfl rfl (any_of HT_.out u7_) (fun _ _ _ h => h) (Or.inl ⟨u39_, ?_⟩) ?_ ?_
           rotate_left
           ·intro w'
            go_simp
            with_reducible rfl
           rotate_left
           ·simp only [Act.put, List.setIfInBounds_toArray, List.set_cons_zero, List.set_cons_succ, i64_w, i32_w]
            rfl
           refine done_ (done_of HT_.out u7_) ?_
           try go_wp2
           go_ret
           exact ⟨_, u3_, by (with_reducible repeat (first | apply Kd.R_alloc | apply Kd.R_drewN | apply Kd.R_drew)); exact Kd.R_mono HO198.out (fun _ hk => hk.1), u0_, u13_⟩
          ·rw [if_neg c15] at H
           exact absurd H u75_
         ·rw [if_neg c12] at H
          exact absurd H u75_
        ·rw [if_neg c11] at H
         exact absurd H u75_
       ·rw [if_neg c10] at H
        exact absurd H u75_
    ·rw [if_neg c4] at H
     exact absurd H u75_
   ·rw [if_neg c3] at H
    have c3b0 : decide (x5_1 < (l0.length : Int)) = false := decide_eq_false c3
    clear c3
    obtain ⟨y199, hy199⟩ : ∃ y_ : List ByteArray, y_ = (([] : List ByteArray)) := ⟨_, rfl⟩
    replace H : (if 0 ≤ x5_1 then (if x5_1 ≤ (l0.length : Int) then ((some (l0.take (x5_1 : Int).toNat : List ByteArray)).bind fun y202 => (if y199.length + y202.length < 8796093022208 then ((some (y199 ++ y202 : List ByteArray)).bind fun y207 => ((some (([a1] : List ByteArray) : List ByteArray)).bind fun y210 => (if y207.length + y210.length < 8796093022208 then ((some (y207 ++ y210 : List ByteArray)).bind fun y213 => ((some (l0.drop (x5_1 : Int).toNat : List ByteArray)).bind fun y216 => (if y213.length + y216.length < 8796093022208 then (some (y213 ++ y216)) else (none)))) else (none)))) else (none))) else (none)) else (none)) = some r := by first | (rw [hy199]; with_reducible exact H) | (have H2_ := (Option.bind_some _ _).symm.trans H; rw [hy199]; with_reducible exact H2_) | (have H2_ := (Option.bind_some _ _).symm.trans H; with_reducible exact H2_) | with_reducible exact H | (rw [hy199]; exact H) | exact H
    have Ny199 := Aside0.mk hy199
    clear hy199
    by_cases c29 : 0 ≤ x5_1
    ·rw [if_pos c29] at H
     have c29b0 := eq_true c29
     have c29b1 : decide (0 ≤ x5_1) = true := decide_eq_true c29
     clear c29
     by_cases c30 : x5_1 ≤ (l0.length : Int)
     ·rw [if_pos c30] at H
      have c30b0 := eq_true c30
      have c30b1 : decide (x5_1 ≤ (l0.length : Int)) = true := decide_eq_true c30
      clear c30
      obtain ⟨y202, hy202⟩ : ∃ y_ : List ByteArray, y_ = (l0.take (x5_1 : Int).toNat) := ⟨_, rfl⟩
      replace H : (if y199.length + y202.length < 8796093022208 then ((some (y199 ++ y202 : List ByteArray)).bind fun y207 => ((some (([a1] : List ByteArray) : List ByteArray)).bind fun y210 => (if y207.length + y210.length < 8796093022208 then ((some (y207 ++ y210 : List ByteArray)).bind fun y213 => ((some (l0.drop (x5_1 : Int).toNat : List ByteArray)).bind fun y216 => (if y213.length + y216.length < 8796093022208 then (some (y213 ++ y216)) else (none)))) else (none)))) else (none)) = some r := by first | (rw [hy202]; with_reducible exact H) | (have H2_ := (Option.bind_some _ _).symm.trans H; rw [hy202]; with_reducible exact H2_) | (have H2_ := (Option.bind_some _ _).symm.trans H; with_reducible exact H2_) | with_reducible exact H | (rw [hy202]; exact H) | exact H
      have Ny202 := Aside0.mk hy202
      clear hy202
      by_cases c31 : y199.length + y202.length < 8796093022208
      ·rw [if_pos c31] at H
       have LMc31 := Aside0.mk c31
       clear c31
       obtain ⟨y207, hy207⟩ : ∃ y_ : List ByteArray, y_ = (y199 ++ y202) := ⟨_, rfl⟩
       replace H : ((some (([a1] : List ByteArray) : List ByteArray)).bind fun y210 => (if y207.length + y210.length < 8796093022208 then ((some (y207 ++ y210 : List ByteArray)).bind fun y213 => ((some (l0.drop (x5_1 : Int).toNat : List ByteArray)).bind fun y216 => (if y213.length + y216.length < 8796093022208 then (some (y213 ++ y216)) else (none)))) else (none))) = some r := by first | (rw [hy207]; with_reducible exact H) | (have H2_ := (Option.bind_some _ _).symm.trans H; rw [hy207]; with_reducible exact H2_) | (have H2_ := (Option.bind_some _ _).symm.trans H; with_reducible exact H2_) | with_reducible exact H | (rw [hy207]; exact H) | exact H
       have Ny207 := Aside0.mk hy207
       clear hy207
       obtain ⟨y210, hy210⟩ : ∃ y_ : List ByteArray, y_ = (([a1] : List ByteArray)) := ⟨_, rfl⟩
       replace H : (if y207.length + y210.length < 8796093022208 then ((some (y207 ++ y210 : List ByteArray)).bind fun y213 => ((some (l0.drop (x5_1 : Int).toNat : List ByteArray)).bind fun y216 => (if y213.length + y216.length < 8796093022208 then (some (y213 ++ y216)) else (none)))) else (none)) = some r := by first | (rw [hy210]; with_reducible exact H) | (have H2_ := (Option.bind_some _ _).symm.trans H; rw [hy210]; with_reducible exact H2_) | (have H2_ := (Option.bind_some _ _).symm.trans H; with_reducible exact H2_) | with_reducible exact H | (rw [hy210]; exact H) | exact H
       have Ny210 := Aside0.mk hy210
       clear hy210
       by_cases c32 : y207.length + y210.length < 8796093022208
       ·rw [if_pos c32] at H
        have LMc32 := Aside0.mk c32
        clear c32
        obtain ⟨y213, hy213⟩ : ∃ y_ : List ByteArray, y_ = (y207 ++ y210) := ⟨_, rfl⟩
        replace H : ((some (l0.drop (x5_1 : Int).toNat : List ByteArray)).bind fun y216 => (if y213.length + y216.length < 8796093022208 then (some (y213 ++ y216)) else (none))) = some r := by first | (rw [hy213]; with_reducible exact H) | (have H2_ := (Option.bind_some _ _).symm.trans H; rw [hy213]; with_reducible exact H2_) | (have H2_ := (Option.bind_some _ _).symm.trans H; with_reducible exact H2_) | with_reducible exact H | (rw [hy213]; exact H) | exact H
        have Ny213 := Aside0.mk hy213
        clear hy213
        have c33b0 := eq_true (of_decide_eq_true u2_ : 0 ≤ x5_1)
        have c34b0 := eq_true (of_decide_eq_true u2_ : x5_1 ≤ (l0.length : Int))
        obtain ⟨y216, hy216⟩ : ∃ y_ : List ByteArray, y_ = (l0.drop (x5_1 : Int).toNat) := ⟨_, rfl⟩
        replace H : (if y213.length + y216.length < 8796093022208 then (some (y213 ++ y216)) else (none)) = some r := by first | (rw [hy216]; with_reducible exact H) | (have H2_ := (Option.bind_some _ _).symm.trans H; rw [hy216]; with_reducible exact H2_) | (have H2_ := (Option.bind_some _ _).symm.trans H; with_reducible exact H2_) | with_reducible exact H | (rw [hy216]; exact H) | exact H
        have Ny216 := Aside0.mk hy216
        clear hy216
        by_cases c35 : y213.length + y216.length < 8796093022208
        ·rw [if_pos c35] at H
         have LMc35 := Aside0.mk c35
         clear c35
         obtain ⟨y221, hy221⟩ : ∃ y_ : List ByteArray, y_ = (y213 ++ y216) := ⟨_, rfl⟩
         replace H : (some y221) = some r := by first | (rw [hy221]; with_reducible exact H) | (have H2_ := (Option.bind_some _ _).symm.trans H; rw [hy221]; with_reducible exact H2_) | (have H2_ := (Option.bind_some _ _).symm.trans H; with_reducible exact H2_) | with_reducible exact H | (rw [hy221]; exact H) | exact H
         have Ny221 := Aside0.mk hy221
         clear hy221
         obtain rfl := Option.some.inj H
         obtain ⟨Ao36, co36, eo36⟩ := Kd.R_slice HO_0.out
         subst eo36
         try go_wp2
         have n0_ := Aside0.mk (Kd.R_drew HO_0.out)
         have n1_ := Aside0.mk (Kept.drew HK.out)
         have n2_ := Aside0.mk (below_drew1 HB.out)
         clear HO_0
         clear HK
         clear HB
         have HO_0 := n0_
         have HK := n1_
         have HB := n2_
         clear n0_ n1_ n2_
         have q38 : (x5_1 : Int) ≤ ((l0.length : Int) : Int) := of_decide_eq_true u2_
         obtain ⟨i038, hi038, _, hsz38, _⟩ := info_parts info9
         have hroom38 : l0.length ≤ co36 := (Kd.R_reads' HO_0.out).2.1
         have hC38 : Kd.F Kd.string _ _ Ao36 l0.length l0 := (Kd.V_at (base := w0.heap.size) (Kd.R_V HO_0.out)).2.2
         have hcut38 := cut_to (P := Tryd.prog) 61 9 .i64 Tryd.underlying61 hi038 Ao36 l0.length co36 x5_1 (of_decide_eq_true u2_) q38 hroom38
         have hr38 := Kd.F_take (m := (x5_1 : Int).toNat) hC38 (by omega)
         have hy38 : y202.length = (x5_1 : Int).toNat := (by rw [Ny202.out, List.length_take]; omega)
         rw [← Ny202.out] at hr38
         rw [← hy38] at hcut38
         have HO206 := Aside0.mk (show Kd.V Kd.string 9 _ w0.heap.size _ (.slice Ao36 y202.length co36) y202 from Kd.V_mk (by omega) hr38)
         have HC206 := Aside0.mk (show y202.length ≤ co36 from by omega)
         clear hr38 hC38 hroom38 hi038 hsz38
         have KY38 := Aside0.mk hy38
         clear hy38
         replace q38 := eq_true q38
         have q39 : (x5_1 : Int) ≤ ((l0.length : Int) : Int) := of_decide_eq_true u2_
         obtain ⟨i039, hi039, _, hsz39, _⟩ := info_parts info9
         have hroom39 : l0.length ≤ co36 := (Kd.R_reads' HO_0.out).2.1
         have hC39 : Kd.F Kd.string _ _ Ao36 l0.length l0 := (Kd.V_at (base := w0.heap.size) (Kd.R_V HO_0.out)).2.2
         have q039 : (0 : Int) ≤ (x5_1 : Int) := of_decide_eq_true u2_
         have hcut39 := cut_from (P := Tryd.prog) 61 9 .i64 Tryd.underlying61 hi039 1 hsz39 Ao36 l0.length co36 x5_1 q039 q39
         have hr39 := Kd.F_cut (m := (x5_1 : Int).toNat) (c := co36) hC39 (by omega) hroom39
         obtain ⟨A39, hA39⟩ : ∃ A1, A1 = (if co36 = (x5_1 : Int).toNat then Ao36 else (Ao36 : Option Addr).map (·.add ((x5_1 : Int).toNat * 1))) := ⟨_, rfl⟩
         obtain ⟨c39, hc39⟩ : ∃ c1, c1 = co36 - (x5_1 : Int).toNat := ⟨_, rfl⟩
         have hy39 : y216.length = l0.length - (x5_1 : Int).toNat := (by rw [Ny216.out, List.length_drop] <;> omega)
         rw [show (l0).drop (x5_1 : Int).toNat = y216 from Ny216.out.symm] at hr39
         replace hr39 : Kd.F Kd.string _ _ A39 y216.length y216 := (by rw [hA39]; exact hr39)
         rw [← hy39, ← hA39, ← hc39] at hcut39
         have HO220 := Aside0.mk (show Kd.V Kd.string 9 _ w0.heap.size _ (.slice A39 y216.length c39) y216 from Kd.V_mk (by rw [hy39, hc39]; exact Nat.sub_le_sub_right hroom39 _) hr39)
         have HC220 := Aside0.mk (show y216.length ≤ c39 from by rw [hy39, hc39]; exact Nat.sub_le_sub_right hroom39 _)
         clear hr39 hC39 hroom39 hi039 hsz39 hc39
         have KY39 := Aside0.mk hy39
         have KA39 := Aside0.mk hA39
         clear hy39 hA39
         replace q39 := eq_true q39
         refine start_ (n := 13) (S := fun w' => True) (ds := []) #[false, false, false, false, false, false, false, false, false, false, false, false, false] u7_ rfl rfl trivial (fun hHeld => ?_); refine with_tabW spec_l2Add.tab6 spec_l2Add.bits6 (fun HT_ HW_ => ?_)
         generalize wr.drew = w37 at HO_0 HK HB HO206 HO220 hHeld ⊢
         refine pure_ (i := 1) (N := some 34) (v := ?_) (a' := ?_) #[false, true, false, false, false, false, false, false, false, false, false, false, false] rfl rfl (any_of HT_.out u7_) (fun _ _ _ h => h) (Or.inl ⟨u39_, ?_⟩) ?_ ?_
         rotate_left
         ·intro w'
          go_simp
          with_reducible rfl
         rotate_left
         ·simp only [Act.put, List.setIfInBounds_toArray, List.set_cons_zero, List.set_cons_succ, i64_w, i32_w]
          rfl
         refine pure_ (i := 2) (N := some 35) (v := ?_) (a' := ?_) #[false, true, true, false, false, false, false, false, false, false, false, false, false] rfl rfl (any_of HT_.out u7_) (fun _ _ _ h => h) (Or.inl ⟨u39_, ?_⟩) ?_ ?_
         rotate_left
         ·intro w'
          go_simp
          with_reducible rfl
         rotate_left
         ·simp only [Act.put, List.setIfInBounds_toArray, List.set_cons_zero, List.set_cons_succ, i64_w, i32_w]
          rfl
         refine pure_ (i := 3) (N := some 36) (v := ?_) (a' := ?_) #[false, true, true, true, false, false, false, false, false, false, false, false, false] rfl rfl (any_of HT_.out u7_) (fun _ _ _ h => h) (Or.inl ⟨u39_, ?_⟩) ?_ ?_
         rotate_left
         ·intro w'
          go_simp
          with_reducible rfl
         rotate_left
         ·simp only [Act.put, List.setIfInBounds_toArray, List.set_cons_zero, List.set_cons_succ, i64_w, i32_w]
          rfl
         refine pure_ (i := 5) (N := some 38) (v := ?_) (a' := ?_) #[false, true, true, true, false, true, false, false, false, false, false, false, false] rfl rfl (any_of HT_.out u7_) (fun _ _ _ h => h) (Or.inl ⟨u39_, ?_⟩) ?_ ?_
         rotate_left
         ·intro w'
          go_simp
          with_reducible rfl
         rotate_left
         ·simp only [Act.put, List.setIfInBounds_toArray, List.set_cons_zero, List.set_cons_succ, i64_w, i32_w]
          rfl
         refine pure_ (i := 8) (N := some 41) (v := ?_) (a' := ?_) #[false, true, true, true, false, true, false, false, true, false, false, false, false] rfl rfl (any_of HT_.out u7_) (fun _ _ _ h => h) (Or.inl ⟨u39_, ?_⟩) ?_ ?_
         rotate_left
         ·intro w'
          go_simp
          with_reducible rfl
         rotate_left
         ·simp only [Act.put, List.setIfInBounds_toArray, List.set_cons_zero, List.set_cons_succ, i64_w, i32_w]
          rfl
         refine pure_ (i := 9) (N := some 42) (v := ?_) (a' := ?_) #[false, true, true, true, false, true, false, false, true, true, false, false, false] rfl rfl (any_of HT_.out u7_) (fun _ _ _ h => h) (Or.inl ⟨u39_, ?_⟩) ?_ ?_
         rotate_left
         ·intro w'
          go_simp
          with_reducible rfl
         rotate_left
         ·simp only [Act.put, List.setIfInBounds_toArray, List.set_cons_zero, List.set_cons_succ, i64_w, i32_w]
          rfl
         refine pure_ (i := 10) (N := some 43) (v := ?_) (a' := ?_) #[false, true, true, true, false, true, false, false, true, true, true, false, false] rfl rfl (any_of HT_.out u7_) (fun _ _ _ h => h) (Or.inl ⟨u39_, ?_⟩) ?_ ?_
         rotate_left
         ·intro w'
          go_simp
          with_reducible rfl
         rotate_left
         ·simp only [Act.put, List.setIfInBounds_toArray, List.set_cons_zero, List.set_cons_succ, i64_w, i32_w]
          rfl
         refine join_ (σ := Value × Value × Value) 3 #[true, true, true, true, true, true, true, false, true, true, true, false, false] (fun s_ => [(33, s_.1), (37, s_.2.1), (39, s_.2.2)]) (fun s_ w' => (Kd.V Kd.string 9 w' w0.heap.size (fun k_ => (P0_ k_ ∨ w.heap.size ≤ k_) ∧ some k_ ≠ (s_.2.1 : Value).ownBlock ∧ some k_ ≠ (s_.2.2 : Value).ownBlock) (.slice Ao36 y202.length co36) y202) ∧ (Kd.R Kd.string 9 w' w0.heap.size (fun k_ => (P0_ k_ ∨ w.heap.size ≤ k_) ∧ some k_ ≠ (s_.2.2 : Value).ownBlock ∧ some k_ ≠ (.slice Ao36 l0.length co36 : Value).ownBlock) s_.2.1 y207) ∧ (Kd.R Kd.string 9 w' w0.heap.size (fun k_ => (P0_ k_ ∨ w.heap.size ≤ k_) ∧ some k_ ≠ (s_.2.1 : Value).ownBlock ∧ some k_ ≠ (.slice Ao36 l0.length co36 : Value).ownBlock) s_.2.2 y210) ∧ (Kd.V Kd.string 9 w' w0.heap.size (fun k_ => (P0_ k_ ∨ w.heap.size ≤ k_) ∧ some k_ ≠ (s_.2.1 : Value).ownBlock ∧ some k_ ≠ (s_.2.2 : Value).ownBlock) (.slice A39 y216.length c39) y216) ∧ (Kd.R Kd.string 9 w' w0.heap.size (fun k_ => (P0_ k_ ∨ w.heap.size ≤ k_) ∧ some k_ ≠ (s_.2.1 : Value).ownBlock ∧ some k_ ≠ (s_.2.2 : Value).ownBlock) (.slice Ao36 l0.length co36) l0) ∧ (Kept w w' (fun k_ => P0_ k_)) ∧ (Below w0.heap.size w0 w')) ?_ ?_
         rotate_left
         ·intro hCont
          refine two_ (i := 0) (j := 6) (Ni := some 33) (Nj := some 39) #[true, true, true, true, false, true, false, false, true, true, true, false, false] #[false, true, true, true, false, true, true, false, true, true, true, false, false] rfl rfl rfl rfl (two_of HT_.out u7_) u64_ u64_ (fun K hK => ?_) (fun K hK => ?_)
          ·skip
           refine Kd.R_lit_step Kd.string _ 9 ?hg (N := 33) ?hd (xs := ([] : List ByteArray)) (inner := []) (ok := fun _ => True) (okp := fun _ => True) ?hr ?hp (fun _ hk => hk) trivial (Below.refl _ _) (Nat.le_refl _) u75_ ?_; (case hd => rfl); (case hg => rfl); (case hr => first | (go_simp; done) | (go_simp; rfl)); (case hp => exact (Reps.none _ _))
           intro v200 w40 ho41 hb hg_ hnew_
           clear hg_ hnew_
           (first | rw [← Ny199.out] at ho41 | (simp only [Int.reduceToNat] at ho41; rw [← Ny199.out] at ho41))
           have n0_ := Aside0.mk (Kd.R_elder' u12_ (Kd.R_base ho41) hb)
           have n1_ := Aside0.mk (Kd.V_elder' u50_ (Kd.R_base ho41) hb)
           have n2_ := Aside0.mk (Kd.V_elder' u51_ (Kd.R_base ho41) hb)
           have n3_ := Aside0.mk (Kd.R_lower (Kd.R_new' (Kd.R_newM (M := fun k_ => (P0_ k_ ∨ w.heap.size ≤ k_)) ho41 u11_ (fun k_ h_ => .inr h_)) (Kd.R_lt u12_)) (below_size u0_))
           have n4_ := Aside0.mk (Kept.below (S := (fun k_ => P0_ k_)) u13_ hb)
           have n5_ := Aside0.mk (below_step u0_ hb)
           clear HO_0
           clear HO206
           clear HO220
           clear HK
           clear HB
           have HO_0 := n0_
           have HO206 := n1_
           have HO220 := n2_
           have HO201 := n3_
           have HK := n4_
           have HB := n5_
           clear n0_ n1_ n2_ n3_ n4_ n5_
           clear hb ho41
           refine hK.out _ _ trivial (fun hHeld => ?_)
           clear hK K
           refine norm_ (a' := ?_) ?_ ?_
           rotate_left
           ·show Act.put _ (some 33) _ = _
            simp only [Act.put, List.setIfInBounds_toArray, List.set_cons_zero, List.set_cons_succ, i64_w, i32_w]
            rfl
           refine two_ (i := 4) (j := 6) (Ni := some 37) (Nj := some 39) #[true, true, true, true, true, true, false, false, true, true, true, false, false] #[true, true, true, true, false, true, true, false, true, true, true, false, false] rfl rfl rfl rfl (two_of HT_.out u7_) u64_ u64_ (fun K hK => ?_) (fun K hK => ?_)
           ·skip
            refine Kd.R_append_rows_step Kd.string (w0 := w0) w0.heap.size u39_ (.tmp 33) (.tmp 36) 61 9 (.string ⟨#[]⟩) 16 rfl Tryd.underlying61 info9 rfl u64_ (by omega) v200 y199 y202 _ _ _ (fun k_ => (P0_ k_ ∨ w.heap.size ≤ k_) ∧ some k_ ≠ (.slice Ao36 l0.length co36 : Value).ownBlock) (fun _ => False) rfl rfl ?aO ?aR (fun _ _ h => h) (fun _ h => h.elim) ?aF ?aB ?aS ?aL ?_
            (case aR => repeat (first | exact (Kd.V_reads' HO206.out).2.2 | (with_reducible refine Kd.C_alloc ?_ _) | (with_reducible refine Kd.C_drewN ?_ _) | (with_reducible refine Kd.C_drew ?_)))
            (case aB => exact u0_)
            (case aF => exact (fun k_ hk => ⟨(.inr (Nat.le_trans u11_ hk)), Kd.fresh' (Kd.R_lt u12_) k_ hk⟩))
            (case aO => exact (by (with_reducible repeat (first | apply Kd.R_alloc | apply Kd.R_drewN | apply Kd.R_drew)); exact Kd.R_mono HO201.out (fun _ hk => ⟨hk.1.1, hk.2⟩)))
            (case aS => exact (below_size u0_))
            (case aL => have := LMc31.out; omega)
            intro v208 w42 ho hb hg hat
            rw [← Ny207.out] at ho
            have n0_ := Aside0.mk (Kd.R_after (ok := (fun k_ => (P0_ k_ ∨ w.heap.size ≤ k_))) u12_ hg hat)
            have n1_ := Aside0.mk (Kd.V_afterv (ok := (fun k_ => (P0_ k_ ∨ w.heap.size ≤ k_))) u50_ hg hat)
            have n2_ := Aside0.mk (Kd.V_afterv (ok := (fun k_ => (P0_ k_ ∨ w.heap.size ≤ k_))) u51_ hg hat)
            have n3_ := Aside0.mk (hb)
            have n4_ := Aside0.mk (Kept.of_grown (S := (fun k_ => P0_ k_)) hg u13_ (fun k_ e_ => (HO201.out.1 k_ e_).1.1))
            have n5_ := Aside0.mk (ho)
            clear HO_0
            clear HO206
            clear HO220
            clear HB
            clear HK
            clear HO201
            have HO_0 := n0_
            have HO206 := n1_
            have HO220 := n2_
            have HB := n3_
            have HK := n4_
            have HO209 := n5_
            clear n0_ n1_ n2_ n3_ n4_ n5_
            clear ho hb hg hat
            refine hK.out _ _ trivial (fun hHeld => ?_)
            clear hK K
            refine norm_ (a' := ?_) ?_ ?_
            rotate_left
            ·show Act.put _ (some 37) _ = _
             simp only [Act.put, List.setIfInBounds_toArray, List.set_cons_zero, List.set_cons_succ, i64_w, i32_w]
             rfl
            refine one_ (i := 6) (N := some 39) #[true, true, true, true, true, true, true, false, true, true, true, false, false] rfl rfl (one_of HT_.out u7_) u64_ (fun K hK => ?_)
            refine Kd.R_lit_step Kd.string _ 9 ?hg (N := 39) ?hd (xs := ([a1] : List ByteArray)) (inner := [.string a1]) (ok := fun _ => True) (okp := fun _ => True) ?hr ?hp (fun _ hk => hk) trivial (Below.refl _ _) (Nat.le_refl _) u75_ ?_; (case hd => rfl); (case hg => rfl); (case hr => first | (go_simp; done) | (go_simp; rfl)); (case hp => exact (Reps.one (show Kd.M Kd.string _ _ _ a1 [.string a1] from rfl) (Reps.none _ _)))
            intro v211 w43 ho44 hb hg_ hnew_
            clear hg_ hnew_
            (first | rw [← Ny210.out] at ho44 | (simp only [Int.reduceToNat] at ho44; rw [← Ny210.out] at ho44))
            have n0_ := Aside0.mk (Kd.R_elder' u12_ (Kd.R_base ho44) hb)
            have n1_ := Aside0.mk (Kd.V_elder' u50_ (Kd.R_base ho44) hb)
            have n2_ := Aside0.mk (Kd.V_elder' u51_ (Kd.R_base ho44) hb)
            have n3_ := Aside0.mk (Kd.R_elder' (by (with_reducible repeat (first | apply Kd.R_alloc | apply Kd.R_drewN | apply Kd.R_drew)); exact HO209.out) (Kd.R_base ho44) hb)
            have n4_ := Aside0.mk (Kd.R_lower (Kd.R_new' (Kd.R_new' (Kd.R_newM (M := fun k_ => (P0_ k_ ∨ w.heap.size ≤ k_)) ho44 u11_ (fun k_ h_ => .inr h_)) (Kd.R_lt u12_)) (Kd.R_lt (by (with_reducible repeat (first | apply Kd.R_alloc | apply Kd.R_drewN | apply Kd.R_drew)); exact HO209.out))) (below_size u0_))
            have n5_ := Aside0.mk (Kept.below (S := (fun k_ => P0_ k_)) u13_ hb)
            have n6_ := Aside0.mk (below_step u0_ hb)
            clear HO_0
            clear HO206
            clear HO220
            clear HO209
            clear HK
            clear HB
            have HO_0 := n0_
            have HO206 := n1_
            have HO220 := n2_
            have HO209 := n3_
            have HO212 := n4_
            have HK := n5_
            have HB := n6_
            clear n0_ n1_ n2_ n3_ n4_ n5_ n6_
            clear hb ho44
            refine hK.out _ _ trivial (fun hHeld => ?_)
            clear hK K
            refine norm_ (a' := ?_) ?_ ?_
            rotate_left
            ·show Act.put _ (some 39) _ = _
             simp only [Act.put, List.setIfInBounds_toArray, List.set_cons_zero, List.set_cons_succ, i64_w, i32_w]
             rfl
            exact norm_ u67_ (hCont (v200, v208, v211) _ ⟨(by (with_reducible repeat (first | apply Kd.V_alloc | apply Kd.V_drewN | apply Kd.V_drew)); exact Kd.V_mono HO206.out (fun _ hk => ⟨hk.1.1, ⟨hk.1.2, hk.2⟩⟩)), (by (with_reducible repeat (first | apply Kd.R_alloc | apply Kd.R_drewN | apply Kd.R_drew)); exact Kd.R_mono HO209.out (fun _ hk => ⟨hk.1.1, ⟨hk.2, hk.1.2⟩⟩)), (by (with_reducible repeat (first | apply Kd.R_alloc | apply Kd.R_drewN | apply Kd.R_drew)); exact Kd.R_mono HO212.out (fun _ hk => ⟨hk.1.1.1, ⟨hk.2, hk.1.2⟩⟩)), (by (with_reducible repeat (first | apply Kd.V_alloc | apply Kd.V_drewN | apply Kd.V_drew)); exact Kd.V_mono HO220.out (fun _ hk => ⟨hk.1.1, ⟨hk.1.2, hk.2⟩⟩)), (by (with_reducible repeat (first | apply Kd.R_alloc | apply Kd.R_drewN | apply Kd.R_drew)); exact Kd.R_mono HO_0.out (fun _ hk => ⟨hk.1.1, ⟨hk.1.2, hk.2⟩⟩)), u13_, u0_⟩)
           ·skip
            refine Kd.R_lit_step Kd.string _ 9 ?hg (N := 39) ?hd (xs := ([a1] : List ByteArray)) (inner := [.string a1]) (ok := fun _ => True) (okp := fun _ => True) ?hr ?hp (fun _ hk => hk) trivial (Below.refl _ _) (Nat.le_refl _) u75_ ?_; (case hd => rfl); (case hg => rfl); (case hr => first | (go_simp; done) | (go_simp; rfl)); (case hp => exact (Reps.one (show Kd.M Kd.string _ _ _ a1 [.string a1] from rfl) (Reps.none _ _)))
            intro v211 w42 ho43 hb hg_ hnew_
            clear hg_ hnew_
            (first | rw [← Ny210.out] at ho43 | (simp only [Int.reduceToNat] at ho43; rw [← Ny210.out] at ho43))
            have n0_ := Aside0.mk (Kd.R_elder' u12_ (Kd.R_base ho43) hb)
            have n1_ := Aside0.mk (Kd.V_elder' u50_ (Kd.R_base ho43) hb)
            have n2_ := Aside0.mk (Kd.V_elder' u51_ (Kd.R_base ho43) hb)
            have n3_ := Aside0.mk (Kd.R_elder' (by (with_reducible repeat (first | apply Kd.R_alloc | apply Kd.R_drewN | apply Kd.R_drew)); exact HO201.out) (Kd.R_base ho43) hb)
            have n4_ := Aside0.mk (Kd.R_lower (Kd.R_new' (Kd.R_new' (Kd.R_newM (M := fun k_ => (P0_ k_ ∨ w.heap.size ≤ k_)) ho43 u11_ (fun k_ h_ => .inr h_)) (Kd.R_lt u12_)) (Kd.R_lt (by (with_reducible repeat (first | apply Kd.R_alloc | apply Kd.R_drewN | apply Kd.R_drew)); exact HO201.out))) (below_size u0_))
            have n5_ := Aside0.mk (Kept.below (S := (fun k_ => P0_ k_)) u13_ hb)
            have n6_ := Aside0.mk (below_step u0_ hb)
            clear HO_0
            clear HO206
            clear HO220
            clear HO201
            clear HK
            clear HB
            have HO_0 := n0_
            have HO206 := n1_
            have HO220 := n2_
            have HO201 := n3_
            have HO212 := n4_
            have HK := n5_
            have HB := n6_
            clear n0_ n1_ n2_ n3_ n4_ n5_ n6_
            clear hb ho43
            refine hK.out _ _ trivial (fun hHeld => ?_)
            clear hK K
            refine norm_ (a' := ?_) ?_ ?_
            rotate_left
            ·show Act.put _ (some 39) _ = _
             simp only [Act.put, List.setIfInBounds_toArray, List.set_cons_zero, List.set_cons_succ, i64_w, i32_w]
             rfl
            refine one_ (i := 4) (N := some 37) #[true, true, true, true, true, true, true, false, true, true, true, false, false] rfl rfl (one_of HT_.out u7_) u64_ (fun K hK => ?_)
            refine Kd.R_append_rows_step Kd.string (w0 := w0) w0.heap.size u39_ (.tmp 33) (.tmp 36) 61 9 (.string ⟨#[]⟩) 16 rfl Tryd.underlying61 info9 rfl u64_ (by omega) v200 y199 y202 _ _ _ (fun k_ => (P0_ k_ ∨ w.heap.size ≤ k_) ∧ some k_ ≠ (.slice Ao36 l0.length co36 : Value).ownBlock ∧ some k_ ≠ (v211 : Value).ownBlock) (fun _ => False) rfl rfl ?aO ?aR (fun _ _ h => h) (fun _ h => h.elim) ?aF ?aB ?aS ?aL ?_
            (case aR => repeat (first | exact (Kd.V_reads' HO206.out).2.2 | (with_reducible refine Kd.C_alloc ?_ _) | (with_reducible refine Kd.C_drewN ?_ _) | (with_reducible refine Kd.C_drew ?_)))
            (case aB => exact u0_)
            (case aF => exact (fun k_ hk => ⟨(.inr (Nat.le_trans u11_ hk)), Kd.fresh' (Kd.R_lt u12_) k_ hk, Kd.fresh' (Kd.R_lt u58_) k_ hk⟩))
            (case aO => exact (by (with_reducible repeat (first | apply Kd.R_alloc | apply Kd.R_drewN | apply Kd.R_drew)); exact Kd.R_mono HO201.out (fun _ hk => ⟨hk.1.1.1, ⟨hk.1.2, hk.2⟩⟩)))
            (case aS => exact (below_size u0_))
            (case aL => have := LMc31.out; omega)
            intro v208 w44 ho hb hg hat
            rw [← Ny207.out] at ho
            have n0_ := Aside0.mk (Kd.R_after (ok := (fun k_ => (P0_ k_ ∨ w.heap.size ≤ k_) ∧ some k_ ≠ (v211 : Value).ownBlock)) (by (with_reducible repeat (first | apply Kd.R_alloc | apply Kd.R_drewN | apply Kd.R_drew)); exact Kd.R_mono HO_0.out (fun _ hk => ⟨⟨hk.1.1, hk.2⟩, hk.1.2⟩)) hg hat)
            have n1_ := Aside0.mk (Kd.V_afterv (ok := (fun k_ => (P0_ k_ ∨ w.heap.size ≤ k_) ∧ some k_ ≠ (v211 : Value).ownBlock)) (by (with_reducible repeat (first | apply Kd.V_alloc | apply Kd.V_drewN | apply Kd.V_drew)); exact Kd.V_mono HO206.out (fun _ hk => ⟨⟨hk.1.1, hk.2⟩, hk.1.2⟩)) hg hat)
            have n2_ := Aside0.mk (Kd.V_afterv (ok := (fun k_ => (P0_ k_ ∨ w.heap.size ≤ k_) ∧ some k_ ≠ (v211 : Value).ownBlock)) (by (with_reducible repeat (first | apply Kd.V_alloc | apply Kd.V_drewN | apply Kd.V_drew)); exact Kd.V_mono HO220.out (fun _ hk => ⟨⟨hk.1.1, hk.2⟩, hk.1.2⟩)) hg hat)
            have n3_ := Aside0.mk (Kd.R_after (ok := (fun k_ => (P0_ k_ ∨ w.heap.size ≤ k_) ∧ some k_ ≠ (.slice Ao36 l0.length co36 : Value).ownBlock)) (by (with_reducible repeat (first | apply Kd.R_alloc | apply Kd.R_drewN | apply Kd.R_drew)); exact Kd.R_mono HO212.out (fun _ hk => ⟨⟨hk.1.1.1, hk.1.2⟩, hk.2⟩)) hg hat)
            have n4_ := Aside0.mk (hb)
            have n5_ := Aside0.mk (Kept.of_grown (S := (fun k_ => P0_ k_)) hg u13_ (fun k_ e_ => (HO201.out.1 k_ e_).1.1.1))
            have n6_ := Aside0.mk (ho)
            clear HO_0
            clear HO206
            clear HO220
            clear HO212
            clear HB
            clear HK
            clear HO201
            have HO_0 := n0_
            have HO206 := n1_
            have HO220 := n2_
            have HO212 := n3_
            have HB := n4_
            have HK := n5_
            have HO209 := n6_
            clear n0_ n1_ n2_ n3_ n4_ n5_ n6_
            clear ho hb hg hat
            refine hK.out _ _ trivial (fun hHeld => ?_)
            clear hK K
            refine norm_ (a' := ?_) ?_ ?_
            rotate_left
            ·show Act.put _ (some 37) _ = _
             simp only [Act.put, List.setIfInBounds_toArray, List.set_cons_zero, List.set_cons_succ, i64_w, i32_w]
             rfl
            exact norm_ u67_ (hCont (v200, v208, v211) _ ⟨(by (with_reducible repeat (first | apply Kd.V_alloc | apply Kd.V_drewN | apply Kd.V_drew)); exact Kd.V_mono HO206.out (fun _ hk => ⟨hk.1.1, ⟨hk.2, hk.1.2⟩⟩)), u81_, (by (with_reducible repeat (first | apply Kd.R_alloc | apply Kd.R_drewN | apply Kd.R_drew)); exact Kd.R_mono HO212.out (fun _ hk => ⟨hk.1.1, ⟨hk.2, hk.1.2⟩⟩)), (by (with_reducible repeat (first | apply Kd.V_alloc | apply Kd.V_drewN | apply Kd.V_drew)); exact Kd.V_mono HO220.out (fun _ hk => ⟨hk.1.1, ⟨hk.2, hk.1.2⟩⟩)), u66_, u13_, u0_⟩)
          ·skip
           refine Kd.R_lit_step Kd.string _ 9 ?hg (N := 39) ?hd (xs := ([a1] : List ByteArray)) (inner := [.string a1]) (ok := fun _ => True) (okp := fun _ => True) ?hr ?hp (fun _ hk => hk) trivial (Below.refl _ _) (Nat.le_refl _) u75_ ?_; (case hd => rfl); (case hg => rfl); (case hr => first | (go_simp; done) | (go_simp; rfl)); (case hp => exact (Reps.one (show Kd.M Kd.string _ _ _ a1 [.string a1] from rfl) (Reps.none _ _)))
           intro v211 w40 ho41 hb hg_ hnew_
           clear hg_ hnew_
           (first | rw [← Ny210.out] at ho41 | (simp only [Int.reduceToNat] at ho41; rw [← Ny210.out] at ho41))
           have n0_ := Aside0.mk (Kd.R_elder' u12_ (Kd.R_base ho41) hb)
           have n1_ := Aside0.mk (Kd.V_elder' u50_ (Kd.R_base ho41) hb)
           have n2_ := Aside0.mk (Kd.V_elder' u51_ (Kd.R_base ho41) hb)
           have n3_ := Aside0.mk (Kd.R_lower (Kd.R_new' (Kd.R_newM (M := fun k_ => (P0_ k_ ∨ w.heap.size ≤ k_)) ho41 u11_ (fun k_ h_ => .inr h_)) (Kd.R_lt u12_)) (below_size u0_))
           have n4_ := Aside0.mk (Kept.below (S := (fun k_ => P0_ k_)) u13_ hb)
           have n5_ := Aside0.mk (below_step u0_ hb)
           clear HO_0
           clear HO206
           clear HO220
           clear HK
           clear HB
           have HO_0 := n0_
           have HO206 := n1_
           have HO220 := n2_
           have HO212 := n3_
           have HK := n4_
           have HB := n5_
           clear n0_ n1_ n2_ n3_ n4_ n5_
           clear hb ho41
           refine hK.out _ _ trivial (fun hHeld => ?_)
           clear hK K
           refine norm_ (a' := ?_) ?_ ?_
           rotate_left
           ·show Act.put _ (some 39) _ = _
            simp only [Act.put, List.setIfInBounds_toArray, List.set_cons_zero, List.set_cons_succ, i64_w, i32_w]
            rfl
           refine one_ (i := 0) (N := some 33) #[true, true, true, true, false, true, true, false, true, true, true, false, false] rfl rfl (one_of HT_.out u7_) u64_ (fun K hK => ?_)
           refine Kd.R_lit_step Kd.string _ 9 ?hg (N := 33) ?hd (xs := ([] : List ByteArray)) (inner := []) (ok := fun _ => True) (okp := fun _ => True) ?hr ?hp (fun _ hk => hk) trivial (Below.refl _ _) (Nat.le_refl _) u75_ ?_; (case hd => rfl); (case hg => rfl); (case hr => first | (go_simp; done) | (go_simp; rfl)); (case hp => exact (Reps.none _ _))
           intro v200 w42 ho43 hb hg_ hnew_
           clear hg_ hnew_
           (first | rw [← Ny199.out] at ho43 | (simp only [Int.reduceToNat] at ho43; rw [← Ny199.out] at ho43))
           have n0_ := Aside0.mk (Kd.R_elder' u12_ (Kd.R_base ho43) hb)
           have n1_ := Aside0.mk (Kd.V_elder' u50_ (Kd.R_base ho43) hb)
           have n2_ := Aside0.mk (Kd.V_elder' u51_ (Kd.R_base ho43) hb)
           have n3_ := Aside0.mk (Kd.R_elder' u58_ (Kd.R_base ho43) hb)
           have n4_ := Aside0.mk (Kd.R_lower (Kd.R_new' (Kd.R_new' (Kd.R_newM (M := fun k_ => (P0_ k_ ∨ w.heap.size ≤ k_)) ho43 u11_ (fun k_ h_ => .inr h_)) (Kd.R_lt u12_)) (Kd.R_lt u58_)) (below_size u0_))
           have n5_ := Aside0.mk (Kept.below (S := (fun k_ => P0_ k_)) u13_ hb)
           have n6_ := Aside0.mk (below_step u0_ hb)
           clear HO_0
           clear HO206
           clear HO220
           clear HO212
           clear HK
           clear HB
           have HO_0 := n0_
           have HO206 := n1_
           have HO220 := n2_
           have HO212 := n3_
           have HO201 := n4_
           have HK := n5_
           have HB := n6_
           clear n0_ n1_ n2_ n3_ n4_ n5_ n6_
           clear hb ho43
           refine hK.out _ _ trivial (fun hHeld => ?_)
           clear hK K
           refine norm_ (a' := ?_) ?_ ?_
           rotate_left
           ·show Act.put _ (some 33) _ = _
            simp only [Act.put, List.setIfInBounds_toArray, List.set_cons_zero, List.set_cons_succ, i64_w, i32_w]
            rfl
           refine one_ (i := 4) (N := some 37) #[true, true, true, true, true, true, true, false, true, true, true, false, false] rfl rfl (one_of HT_.out u7_) u64_ (fun K hK => ?_)
           refine Kd.R_append_rows_step Kd.string (w0 := w0) w0.heap.size u39_ (.tmp 33) (.tmp 36) 61 9 (.string ⟨#[]⟩) 16 rfl Tryd.underlying61 info9 rfl u64_ (by omega) v200 y199 y202 _ _ _ (fun k_ => (P0_ k_ ∨ w.heap.size ≤ k_) ∧ some k_ ≠ (.slice Ao36 l0.length co36 : Value).ownBlock ∧ some k_ ≠ (v211 : Value).ownBlock) (fun _ => False) rfl rfl ?aO ?aR (fun _ _ h => h) (fun _ h => h.elim) ?aF ?aB ?aS ?aL ?_
           (case aR => repeat (first | exact (Kd.V_reads' HO206.out).2.2 | (with_reducible refine Kd.C_alloc ?_ _) | (with_reducible refine Kd.C_drewN ?_ _) | (with_reducible refine Kd.C_drew ?_)))
           (case aB => exact u0_)
           (case aF => exact (fun k_ hk => ⟨(.inr (Nat.le_trans u11_ hk)), Kd.fresh' (Kd.R_lt u12_) k_ hk, Kd.fresh' (Kd.R_lt u58_) k_ hk⟩))
           (case aO => exact (by (with_reducible repeat (first | apply Kd.R_alloc | apply Kd.R_drewN | apply Kd.R_drew)); exact Kd.R_mono HO201.out (fun _ hk => ⟨hk.1.1.1, ⟨hk.1.2, hk.2⟩⟩)))
           (case aS => exact (below_size u0_))
           (case aL => have := LMc31.out; omega)
           intro v208 w44 ho hb hg hat
           rw [← Ny207.out] at ho
           have n0_ := Aside0.mk (Kd.R_after (ok := (fun k_ => (P0_ k_ ∨ w.heap.size ≤ k_) ∧ some k_ ≠ (v211 : Value).ownBlock)) u12_ hg hat)
           have n1_ := Aside0.mk (Kd.V_afterv (ok := (fun k_ => (P0_ k_ ∨ w.heap.size ≤ k_) ∧ some k_ ≠ (v211 : Value).ownBlock)) u50_ hg hat)
           have n2_ := Aside0.mk (Kd.V_afterv (ok := (fun k_ => (P0_ k_ ∨ w.heap.size ≤ k_) ∧ some k_ ≠ (v211 : Value).ownBlock)) u51_ hg hat)
           have n3_ := Aside0.mk (Kd.R_after (ok := (fun k_ => (P0_ k_ ∨ w.heap.size ≤ k_) ∧ some k_ ≠ (.slice Ao36 l0.length co36 : Value).ownBlock)) (by (with_reducible repeat (first | apply Kd.R_alloc | apply Kd.R_drewN | apply Kd.R_drew)); exact Kd.R_mono HO212.out (fun _ hk => ⟨⟨hk.1.1.1, hk.1.2⟩, hk.2⟩)) hg hat)
           have n4_ := Aside0.mk (hb)
           have n5_ := Aside0.mk (Kept.of_grown (S := (fun k_ => P0_ k_)) hg u13_ (fun k_ e_ => (HO201.out.1 k_ e_).1.1.1))
           have n6_ := Aside0.mk (ho)
           clear HO_0
           clear HO206
           clear HO220
           clear HO212
           clear HB
           clear HK
           clear HO201
           have HO_0 := n0_
           have HO206 := n1_
           have HO220 := n2_
           have HO212 := n3_
           have HB := n4_
           have HK := n5_
           have HO209 := n6_
           clear n0_ n1_ n2_ n3_ n4_ n5_ n6_
           clear ho hb hg hat
           refine hK.out _ _ trivial (fun hHeld => ?_)
           clear hK K
           refine norm_ (a' := ?_) ?_ ?_
           rotate_left
           ·show Act.put _ (some 37) _ = _
            simp only [Act.put, List.setIfInBounds_toArray, List.set_cons_zero, List.set_cons_succ, i64_w, i32_w]
            rfl
           exact norm_ u67_ (hCont (v200, v208, v211) _ ⟨(by (with_reducible repeat (first | apply Kd.V_alloc | apply Kd.V_drewN | apply Kd.V_drew)); exact Kd.V_mono HO206.out (fun _ hk => ⟨hk.1.1, ⟨hk.2, hk.1.2⟩⟩)), u81_, (by (with_reducible repeat (first | apply Kd.R_alloc | apply Kd.R_drewN | apply Kd.R_drew)); exact Kd.R_mono HO212.out (fun _ hk => ⟨hk.1.1, ⟨hk.2, hk.1.2⟩⟩)), (by (with_reducible repeat (first | apply Kd.V_alloc | apply Kd.V_drewN | apply Kd.V_drew)); exact Kd.V_mono HO220.out (fun _ hk => ⟨hk.1.1, ⟨hk.2, hk.1.2⟩⟩)), u66_, u13_, u0_⟩)
         rintro ⟨v200, v208, v211⟩ w45 ⟨h0_, h1_, h2_, h3_, h4_, h5_, h6_⟩
         have n0_ : Aside0 (Kd.V Kd.string 9 w45 w0.heap.size (fun k_ => (P0_ k_ ∨ w.heap.size ≤ k_) ∧ some k_ ≠ (v208 : Value).ownBlock ∧ some k_ ≠ (v211 : Value).ownBlock) (.slice Ao36 y202.length co36) y202) := ⟨h0_⟩
         have n1_ : Aside0 (Kd.R Kd.string 9 w45 w0.heap.size (fun k_ => (P0_ k_ ∨ w.heap.size ≤ k_) ∧ some k_ ≠ (v211 : Value).ownBlock ∧ some k_ ≠ (.slice Ao36 l0.length co36 : Value).ownBlock) v208 y207) := ⟨h1_⟩
         have n2_ : Aside0 (Kd.R Kd.string 9 w45 w0.heap.size (fun k_ => (P0_ k_ ∨ w.heap.size ≤ k_) ∧ some k_ ≠ (v208 : Value).ownBlock ∧ some k_ ≠ (.slice Ao36 l0.length co36 : Value).ownBlock) v211 y210) := ⟨h2_⟩
         have n3_ : Aside0 (Kd.V Kd.string 9 w45 w0.heap.size (fun k_ => (P0_ k_ ∨ w.heap.size ≤ k_) ∧ some k_ ≠ (v208 : Value).ownBlock ∧ some k_ ≠ (v211 : Value).ownBlock) (.slice A39 y216.length c39) y216) := ⟨h3_⟩
         have n4_ : Aside0 (Kd.R Kd.string 9 w45 w0.heap.size (fun k_ => (P0_ k_ ∨ w.heap.size ≤ k_) ∧ some k_ ≠ (v208 : Value).ownBlock ∧ some k_ ≠ (v211 : Value).ownBlock) (.slice Ao36 l0.length co36) l0) := ⟨h4_⟩
         have n5_ : Aside0 (Kept w w45 (fun k_ => P0_ k_)) := ⟨h5_⟩
         have n6_ : Aside0 (Below w0.heap.size w0 w45) := ⟨h6_⟩
         clear HO_0
         clear HK
         clear HB
         clear h0_ h1_ h2_ h3_ h4_ h5_ h6_
         have HO206 := n0_
         have HO209 := n1_
         have HO212 := n2_
         have HO220 := n3_
         have HO_0 := n4_
         have HK := n5_
         have HB := n6_
         clear n0_ n1_ n2_ n3_ n4_ n5_ n6_
         have hHeld := trivial
         obtain ⟨Ao47, co47, eo47⟩ := Kd.R_slice HO212.out
         (first | subst eo47 | (injection eo47 with f1_ f2_ f3_; have f4_ := f1_.symm; have f5_ := f3_.symm; clear f1_ f2_ f3_; subst f4_; subst f5_))
         refine norm_ (a' := ?_) ?_ ?_
         rotate_left
         ·simp only [putAll, Act.put, List.setIfInBounds_toArray, List.set_cons_zero, List.set_cons_succ]
          rfl
         refine one_ (i := 7) (N := some 40) #[true, true, true, true, true, true, true, true, true, true, true, false, false] rfl rfl (one_of HT_.out u7_) u64_ (fun K hK => ?_)
         refine Kd.R_append_rows_step Kd.string (w0 := w0) w0.heap.size u39_ (.tmp 37) (.tmp 39) 61 9 (.string ⟨#[]⟩) 16 rfl Tryd.underlying61 info9 rfl u64_ (by omega) v208 y207 y210 _ _ _ (fun k_ => (P0_ k_ ∨ w.heap.size ≤ k_) ∧ some k_ ≠ (.slice Ao36 l0.length co36 : Value).ownBlock ∧ some k_ ≠ (.slice Ao47 y210.length co47 : Value).ownBlock) (fun _ => False) rfl rfl ?aO ?aR (fun _ _ h => h) (fun _ h => h.elim) ?aF ?aB ?aS ?aL ?_
         (case aR => repeat (first | exact (Kd.R_reads' HO212.out).2.2 | (with_reducible refine Kd.C_alloc ?_ _) | (with_reducible refine Kd.C_drewN ?_ _) | (with_reducible refine Kd.C_drew ?_)))
         (case aB => exact u0_)
         (case aF => exact (fun k_ hk => ⟨(.inr (Nat.le_trans u11_ hk)), Kd.fresh' (Kd.R_lt u12_) k_ hk, Kd.fresh' (Kd.R_lt u58_) k_ hk⟩))
         (case aO => exact u81_)
         (case aS => exact (below_size u0_))
         (case aL => have := LMc32.out; omega)
         intro v214 w46 ho hb hg hat
         rw [← Ny213.out] at ho
         have n0_ := Aside0.mk (Kd.R_after (ok := (fun k_ => (P0_ k_ ∨ w.heap.size ≤ k_) ∧ some k_ ≠ (.slice Ao47 y210.length co47 : Value).ownBlock)) (by (with_reducible repeat (first | apply Kd.R_alloc | apply Kd.R_drewN | apply Kd.R_drew)); exact Kd.R_mono HO_0.out (fun _ hk => ⟨⟨hk.1, hk.2.2⟩, hk.2.1⟩)) hg hat)
         have n1_ := Aside0.mk (Kd.V_afterv (ok := (fun k_ => (P0_ k_ ∨ w.heap.size ≤ k_) ∧ some k_ ≠ (.slice Ao47 y210.length co47 : Value).ownBlock)) (by (with_reducible repeat (first | apply Kd.V_alloc | apply Kd.V_drewN | apply Kd.V_drew)); exact Kd.V_mono HO206.out (fun _ hk => ⟨⟨hk.1, hk.2.2⟩, hk.2.1⟩)) hg hat)
         have n2_ := Aside0.mk (Kd.V_afterv (ok := (fun k_ => (P0_ k_ ∨ w.heap.size ≤ k_) ∧ some k_ ≠ (.slice Ao47 y210.length co47 : Value).ownBlock)) (by (with_reducible repeat (first | apply Kd.V_alloc | apply Kd.V_drewN | apply Kd.V_drew)); exact Kd.V_mono HO220.out (fun _ hk => ⟨⟨hk.1, hk.2.2⟩, hk.2.1⟩)) hg hat)
         have n3_ := Aside0.mk (Kd.R_after (ok := (fun k_ => (P0_ k_ ∨ w.heap.size ≤ k_) ∧ some k_ ≠ (.slice Ao36 l0.length co36 : Value).ownBlock)) (by (with_reducible repeat (first | apply Kd.R_alloc | apply Kd.R_drewN | apply Kd.R_drew)); exact Kd.R_mono HO212.out (fun _ hk => ⟨⟨hk.1, hk.2.2⟩, hk.2.1⟩)) hg hat)
         have n4_ := Aside0.mk (hb)
         have n5_ := Aside0.mk (Kept.of_grown (S := (fun k_ => P0_ k_)) hg u13_ (fun k_ e_ => (HO209.out.1 k_ e_).1))
         have n6_ := Aside0.mk (ho)
         clear HO_0
         clear HO206
         clear HO220
         clear HO212
         clear HB
         clear HK
         clear HO209
         have HO_0 := n0_
         have HO206 := n1_
         have HO220 := n2_
         have HO212 := n3_
         have HB := n4_
         have HK := n5_
         have HO215 := n6_
         clear n0_ n1_ n2_ n3_ n4_ n5_ n6_
         clear ho hb hg hat
         refine hK.out _ _ trivial (fun hHeld => ?_)
         clear hK K
         refine norm_ (a' := ?_) ?_ ?_
         rotate_left
         ·show Act.put _ (some 40) _ = _
          simp only [Act.put, List.setIfInBounds_toArray, List.set_cons_zero, List.set_cons_succ, i64_w, i32_w]
          rfl
         refine one_ (i := 11) (N := some 44) #[true, true, true, true, true, true, true, true, true, true, true, true, false] rfl rfl (one_of HT_.out u7_) u64_ (fun K hK => ?_)
         refine Kd.R_append_rows_step Kd.string (w0 := w0) w0.heap.size u39_ (.tmp 40) (.tmp 43) 61 9 (.string ⟨#[]⟩) 16 rfl Tryd.underlying61 info9 rfl u64_ (by omega) v214 y213 y216 _ _ _ (fun k_ => (P0_ k_ ∨ w.heap.size ≤ k_) ∧ some k_ ≠ (.slice Ao36 l0.length co36 : Value).ownBlock ∧ some k_ ≠ (.slice Ao47 y210.length co47 : Value).ownBlock) (fun _ => False) rfl rfl ?aO ?aR (fun _ _ h => h) (fun _ h => h.elim) ?aF ?aB ?aS ?aL ?_
         (case aR => repeat (first | exact (Kd.V_reads' HO220.out).2.2 | (with_reducible refine Kd.C_alloc ?_ _) | (with_reducible refine Kd.C_drewN ?_ _) | (with_reducible refine Kd.C_drew ?_)))
         (case aB => exact u0_)
         (case aF => exact (fun k_ hk => ⟨(.inr (Nat.le_trans u11_ hk)), Kd.fresh' (Kd.R_lt u12_) k_ hk, Kd.fresh' (Kd.R_lt u58_) k_ hk⟩))
         (case aO => exact (by (with_reducible repeat (first | apply Kd.R_alloc | apply Kd.R_drewN | apply Kd.R_drew)); exact HO215.out))
         (case aS => exact (below_size u0_))
         (case aL => have := LMc35.out; omega)
         intro v222 w48 ho hb hg hat
         rw [← Ny221.out] at ho
         have n0_ := Aside0.mk (Kd.R_after (ok := (fun k_ => (P0_ k_ ∨ w.heap.size ≤ k_) ∧ some k_ ≠ (.slice Ao47 y210.length co47 : Value).ownBlock)) u12_ hg hat)
         have n1_ := Aside0.mk (Kd.V_afterv (ok := (fun k_ => (P0_ k_ ∨ w.heap.size ≤ k_) ∧ some k_ ≠ (.slice Ao47 y210.length co47 : Value).ownBlock)) u50_ hg hat)
         have n2_ := Aside0.mk (Kd.V_afterv (ok := (fun k_ => (P0_ k_ ∨ w.heap.size ≤ k_) ∧ some k_ ≠ (.slice Ao47 y210.length co47 : Value).ownBlock)) u51_ hg hat)
         have n3_ := Aside0.mk (Kd.R_after (ok := (fun k_ => (P0_ k_ ∨ w.heap.size ≤ k_) ∧ some k_ ≠ (.slice Ao36 l0.length co36 : Value).ownBlock)) u58_ hg hat)
         have n4_ := Aside0.mk (hb)
         have n5_ := Aside0.mk (Kept.of_grown (S := (fun k_ => P0_ k_)) hg u13_ (fun k_ e_ => (HO215.out.1 k_ e_).1))
         have n6_ := Aside0.mk (ho)
         clear HO_0
         clear HO206
         clear HO220
         clear HO212
         clear HB
         clear HK
         clear HO215
         have HO_0 := n0_
         have HO206 := n1_
         have HO220 := n2_
         have HO212 := n3_
         have HB := n4_
         have HK := n5_
         have HO223 := n6_
         clear n0_ n1_ n2_ n3_ n4_ n5_ n6_
         clear ho hb hg hat
         refine hK.out _ _ trivial (fun hHeld => ?_)
         clear hK K
         refine norm_ (a' := ?_) ?_ ?_
         rotate_left
         ·show Act.put _ (some 44) _ = _
          simp only [Act.put, List.setIfInBounds_toArray, List.set_cons_zero, List.set_cons_succ, i64_w, i32_w]
          rfl
         refine pure_ (i := 12) (N := some 4) (v := ?_) (a' := ?_) #[true, true, true, true, true, true, true, true, true, true, true, true, true] rfl rfl (any_of HT_.out u7_) (fun _ _ _ h => h) (Or.inl ⟨u39_, ?_⟩) ?_ ?_
         rotate_left
         ·intro w'
          go_simp
          with_reducible rfl
         rotate_left
         ·simp only [Act.put, List.setIfInBounds_toArray, List.set_cons_zero, List.set_cons_succ, i64_w, i32_w]
          rfl
         refine done_ (done_of HT_.out u7_) ?_
         try go_wp2
         go_ret
         exact ⟨_, u3_, by (with_reducible repeat (first | apply Kd.R_alloc | apply Kd.R_drewN | apply Kd.R_drew)); exact Kd.R_mono HO223.out (fun _ hk => hk.1), u0_, u13_⟩
        ·rw [if_neg c35] at H
         exact absurd H u75_
       ·rw [if_neg c32] at H
        exact absurd H u75_
      ·rw [if_neg c31] at H
       exact absurd H u75_
     ·rw [if_neg c30] at H
      exact absurd H u75_
    ·rw [if_neg c29] at H
     exact absurd H u75_

end Go.Proofs.YtelcdhjdlgedeaaDoor.PFnExactDocOk
