/- Contracts of Go functions that the law FnIndexNew reaches: each is told as a plain Lean function, with the walk that shows it; no condition beyond what each states. Written by a program of this session round the kit's printer. -/
import Derived.Test.YtelcdhjdlgedeaaGreatDoorVPFnIndexNewx0
import Derived.Test.YtelcdhjdlgedeaaGreatDoorVPFnIndexNewx6
import Derived.Test.YtelcdhjdlgedeaaGreatDoorVPFnIndexNewx7
namespace Go.Proofs.YtelcdhjdlgedeaaGreatDoor.PFnIndexNew
open Go.RowKit Go.Proofs.YtelcdhjdlgedeaaGreatDoorW.PrintWords Go.Proofs.YtelcdhjdlgedeaaGreatDoorW.PrintLast Go.Proofs.YtelcdhjdlgedeaaGreatDoorW.PrintMore
attribute [local go_sem] run_str_geq run_str_leq max2_int min2_int max_two min_two max_three min_three max_four min_four   -- for this text's walks alone
set_option linter.unusedVariables false
set_option linter.unusedSimpArgs false

/-! ### laws_sdIndex: function 8 -/
mutual
def laws_sdIndex.j0 : Nat → Bool → List (S79) → List (S59) → List (S62) → Int → List (S79) → List (S59) → List (S62) → Int → Option (Bool)
 | 0, _, _, _, _, _, _, _, _, _ => none
 | k + 1, x37, x227000, x227001, x227002, x227003, x228000, x228001, x228002, x228003 => if x37 = true then (some false) else (laws_sdIndex.l0 k 0 x227000 x227001 x227002 x227003 x228000 x228001 x228002 x228003)
def laws_sdIndex.l0 : Nat → Int → List (S79) → List (S59) → List (S62) → Int → List (S79) → List (S59) → List (S62) → Int → Option (Bool)
 | 0, _, _, _, _, _, _, _, _, _ => none
 | k + 1, x5, x227000, x227001, x227002, x227003, x228000, x228001, x228002, x228003 => if x5 < (x227001.length : Int) then (if 0 ≤ x5 then (if x5 < (x228001.length : Int) then (if ((rd_T59 x227001 x5).f0) = ((rd_T59 x228001 x5).f0) then ((laws_sdDoc.f k ((rd_T59 x227001 x5).f1.f0) ((rd_T59 x227001 x5).f1.f1) ((rd_T59 x228001 x5).f1.f0) ((rd_T59 x228001 x5).f1.f1)).bind fun t233 => (if t233 = true then (laws_sdIndex.l0 k (wrap64 (x5 + 1)) x227000 x227001 x227002 x227003 x228000 x228001 x228002 x228003) else (some false))) else (some false)) else (none)) else (none)) else (laws_sdIndex.l1 k 0 x227000 x227001 x227002 x227003 x228000 x228001 x228002 x228003)
def laws_sdIndex.l1 : Nat → Int → List (S79) → List (S59) → List (S62) → Int → List (S79) → List (S59) → List (S62) → Int → Option (Bool)
 | 0, _, _, _, _, _, _, _, _, _ => none
 | k + 1, x6, x227000, x227001, x227002, x227003, x228000, x228001, x228002, x228003 => if x6 < (x227002.length : Int) then (if 0 ≤ x6 then (if x6 < (x228002.length : Int) then (if ((rd_T62 x227002 x6).f0).toList = ((rd_T62 x228002 x6).f0).toList then (if ((rd_T62 x227002 x6).f1).toList = ((rd_T62 x228002 x6).f1).toList then ((laws_sdPosts.f k ((rd_T62 x227002 x6).f2) ((rd_T62 x228002 x6).f2)).bind fun t240 => (if t240 = true then (laws_sdIndex.l1 k (wrap64 (x6 + 1)) x227000 x227001 x227002 x227003 x228000 x228001 x228002 x228003) else (some false))) else (some false)) else (some false)) else (none)) else (none)) else (some true)
end
def laws_sdIndex.f (k : Nat) (l0_0 : List (S79)) (l0_1 : List (S59)) (l0_2 : List (S62)) (a0_3 : Int) (l1_0 : List (S79)) (l1_1 : List (S59)) (l1_2 : List (S62)) (a1_3 : Int) : Option (Bool) := (laws_sdFields.f k l0_0 l1_0).bind fun t228 => (if t228 = true then (if (l0_1.length : Int) = (l1_1.length : Int) then (if (l0_2.length : Int) = (l1_2.length : Int) then (laws_sdIndex.j0 k (a0_3 != a1_3) l0_0 l0_1 l0_2 a0_3 l1_0 l1_1 l1_2 a1_3) else (laws_sdIndex.j0 k true l0_0 l0_1 l0_2 a0_3 l1_0 l1_1 l1_2 a1_3)) else (laws_sdIndex.j0 k true l0_0 l0_1 l0_2 a0_3 l1_0 l1_1 l1_2 a1_3)) else (laws_sdIndex.j0 k true l0_0 l0_1 l0_2 a0_3 l1_0 l1_1 l1_2 a1_3))
theorem laws_sdIndex.mono_l : ∀ k, (∀ y0 y1 y2 y3 y4 y5 y6 y7 y8, LeO (laws_sdIndex.j0 k y0 y1 y2 y3 y4 y5 y6 y7 y8) (laws_sdIndex.j0 (k + 1) y0 y1 y2 y3 y4 y5 y6 y7 y8)) ∧ (∀ y0 y1 y2 y3 y4 y5 y6 y7 y8, LeO (laws_sdIndex.l0 k y0 y1 y2 y3 y4 y5 y6 y7 y8) (laws_sdIndex.l0 (k + 1) y0 y1 y2 y3 y4 y5 y6 y7 y8)) ∧ (∀ y0 y1 y2 y3 y4 y5 y6 y7 y8, LeO (laws_sdIndex.l1 k y0 y1 y2 y3 y4 y5 y6 y7 y8) (laws_sdIndex.l1 (k + 1) y0 y1 y2 y3 y4 y5 y6 y7 y8))
 | 0 => ⟨fun _ _ _ _ _ _ _ _ _ r h => by simp [laws_sdIndex.j0] at h, fun _ _ _ _ _ _ _ _ _ r h => by simp [laws_sdIndex.l0] at h, fun _ _ _ _ _ _ _ _ _ r h => by simp [laws_sdIndex.l1] at h⟩
 | k + 1 => by
  obtain ⟨ih0, ih1, ih2⟩ := laws_sdIndex.mono_l k; refine ⟨?_, ?_, ?_⟩
  ·intro y0 y1 y2 y3 y4 y5 y6 y7 y8; unfold laws_sdIndex.j0
   repeat' first
   | (with_reducible exact ih0 _ _ _ _ _ _ _ _ _)
   | (with_reducible exact ih1 _ _ _ _ _ _ _ _ _)
   | (with_reducible exact ih2 _ _ _ _ _ _ _ _ _)
   | (with_reducible exact laws_sdDoc.mono _ _ _ _ _)
   | (with_reducible exact laws_sdFields.mono _ _ _)
   | (with_reducible exact laws_sdPosts.mono _ _ _)
   | (with_reducible exact LeO.refl _)
   | (with_reducible exact LeO.none _)
   | (with_reducible refine LeO.ite ?_ ?_)
   | (with_reducible refine LeO.bind ?_ (fun _ => ?_))
   | exact ih0 _ _ _ _ _ _ _ _ _
   | exact ih1 _ _ _ _ _ _ _ _ _
   | exact ih2 _ _ _ _ _ _ _ _ _
   | exact laws_sdDoc.mono _ _ _ _ _
   | exact laws_sdFields.mono _ _ _
   | exact laws_sdPosts.mono _ _ _
   | exact LeO.none _
   | refine LeO.ite ?_ ?_
   | refine LeO.bind ?_ (fun _ => ?_)
  ·intro y0 y1 y2 y3 y4 y5 y6 y7 y8; unfold laws_sdIndex.l0
   repeat' first
   | (with_reducible exact ih0 _ _ _ _ _ _ _ _ _)
   | (with_reducible exact ih1 _ _ _ _ _ _ _ _ _)
   | (with_reducible exact ih2 _ _ _ _ _ _ _ _ _)
   | (with_reducible exact laws_sdDoc.mono _ _ _ _ _)
   | (with_reducible exact laws_sdFields.mono _ _ _)
   | (with_reducible exact laws_sdPosts.mono _ _ _)
   | (with_reducible exact LeO.refl _)
   | (with_reducible exact LeO.none _)
   | (with_reducible refine LeO.ite ?_ ?_)
   | (with_reducible refine LeO.bind ?_ (fun _ => ?_))
   | exact ih0 _ _ _ _ _ _ _ _ _
   | exact ih1 _ _ _ _ _ _ _ _ _
   | exact ih2 _ _ _ _ _ _ _ _ _
   | exact laws_sdDoc.mono _ _ _ _ _
   | exact laws_sdFields.mono _ _ _
   | exact laws_sdPosts.mono _ _ _
   | exact LeO.none _
   | refine LeO.ite ?_ ?_
   | refine LeO.bind ?_ (fun _ => ?_)
  ·intro y0 y1 y2 y3 y4 y5 y6 y7 y8; unfold laws_sdIndex.l1
   repeat' first
   | (with_reducible exact ih0 _ _ _ _ _ _ _ _ _)
   | (with_reducible exact ih1 _ _ _ _ _ _ _ _ _)
   | (with_reducible exact ih2 _ _ _ _ _ _ _ _ _)
   | (with_reducible exact laws_sdDoc.mono _ _ _ _ _)
   | (with_reducible exact laws_sdFields.mono _ _ _)
   | (with_reducible exact laws_sdPosts.mono _ _ _)
   | (with_reducible exact LeO.refl _)
   | (with_reducible exact LeO.none _)
   | (with_reducible refine LeO.ite ?_ ?_)
   | (with_reducible refine LeO.bind ?_ (fun _ => ?_))
   | exact ih0 _ _ _ _ _ _ _ _ _
   | exact ih1 _ _ _ _ _ _ _ _ _
   | exact ih2 _ _ _ _ _ _ _ _ _
   | exact laws_sdDoc.mono _ _ _ _ _
   | exact laws_sdFields.mono _ _ _
   | exact laws_sdPosts.mono _ _ _
   | exact LeO.none _
   | refine LeO.ite ?_ ?_
   | refine LeO.bind ?_ (fun _ => ?_)
theorem laws_sdIndex.mono : ∀ a0 a1 a2 a3 a4 a5 a6 a7 k, LeO (laws_sdIndex.f k a0 a1 a2 a3 a4 a5 a6 a7) (laws_sdIndex.f (k + 1) a0 a1 a2 a3 a4 a5 a6 a7) := by
 intro a0 a1 a2 a3 a4 a5 a6 a7 k; obtain ⟨ih0, ih1, ih2⟩ := laws_sdIndex.mono_l k; unfold laws_sdIndex.f
 repeat' first
   | (with_reducible exact ih0 _ _ _ _ _ _ _ _ _)
   | (with_reducible exact ih1 _ _ _ _ _ _ _ _ _)
   | (with_reducible exact ih2 _ _ _ _ _ _ _ _ _)
   | (with_reducible exact laws_sdDoc.mono _ _ _ _ _)
   | (with_reducible exact laws_sdFields.mono _ _ _)
   | (with_reducible exact laws_sdPosts.mono _ _ _)
   | (with_reducible exact LeO.refl _)
   | (with_reducible exact LeO.none _)
   | (with_reducible refine LeO.ite ?_ ?_)
   | (with_reducible refine LeO.bind ?_ (fun _ => ?_))
   | exact ih0 _ _ _ _ _ _ _ _ _
   | exact ih1 _ _ _ _ _ _ _ _ _
   | exact ih2 _ _ _ _ _ _ _ _ _
   | exact laws_sdDoc.mono _ _ _ _ _
   | exact laws_sdFields.mono _ _ _
   | exact laws_sdPosts.mono _ _ _
   | exact LeO.none _
   | refine LeO.ite ?_ ?_
   | refine LeO.bind ?_ (fun _ => ?_)
def laws_sdIndex.T6 : Bool × List (List Nat × List Nat) := (true, [([], []), ([0], [0]), ([], []), ([1, 2], [1, 2]), ([3], [3]), ([4], [4]), ([], []), ([6], [6]), ([], []), ([7, 8], [7, 8]), ([9], [9]), ([10], [10]), ([5, 11], [5, 11]), ([12], [12]), ([13], [13]), ([14, 13], [13, 14]), ([13], [13]), ([15, 16, 13], [13, 15, 16]), ([17, 13], [13, 17]), ([18, 13], [13, 18]), ([13], [13]), ([20, 13], [13, 20]), ([13], [13]), ([21, 22, 13], [13, 21, 22]), ([23, 13], [13, 23]), ([24, 13], [13, 24]), ([19, 25, 13, 13], [13, 19, 25]), ([26, 13], [13, 26]), ([13, 27], [13, 27])])
def laws_sdIndex.B6 : List Nat := [0, 1, 0, 7, 15, 31, 0, 64, 0, 448, 960, 1984, 4095, 8191, 16383, 32767, 16383, 131071, 262143, 524287, 16383, 1064959, 16383, 7356415, 15745023, 32522239, 67108863, 134217727, 268435455]
theorem laws_sdIndex.tab6 : rtab .any (opsOf Tryz.f8 6) = laws_sdIndex.T6 := by kernel_rfl
theorem laws_sdIndex.bits6 : waitsOk laws_sdIndex.T6.2 laws_sdIndex.B6 = true := by kernel_rfl
def laws_sdIndex.T11 : Bool × List (List Nat × List Nat) := (true, [([], []), ([0], [0]), ([], []), ([1, 2], [1, 2]), ([3], [3]), ([4], [4]), ([], []), ([6], [6]), ([], []), ([7, 8], [7, 8]), ([9], [9]), ([10], [10]), ([5, 11], [5, 11]), ([12], [12]), ([13], [13]), ([14, 13], [13, 14]), ([13], [13]), ([15, 16, 13], [13, 15, 16]), ([17, 13], [13, 17]), ([18, 13], [13, 18]), ([13], [13]), ([20, 13], [13, 20]), ([13], [13]), ([21, 22, 13], [13, 21, 22]), ([23, 13], [13, 23]), ([24, 13], [13, 24]), ([19, 25, 13], [13, 19, 25]), ([13, 26], [13, 26]), ([27, 13], [27]), ([28], [28]), ([29, 28], [28, 29]), ([28], [28]), ([30, 31, 28], [28, 30, 31]), ([32, 28], [28, 32]), ([33, 28], [28, 33]), ([28], [28]), ([35, 28], [28, 35]), ([28], [28]), ([36, 37, 28], [28, 36, 37]), ([38, 28], [28, 38]), ([39, 28], [28, 39]), ([34, 40, 28, 28], [28, 34, 40]), ([41, 28], [28, 41]), ([28, 42], [28, 42])])
def laws_sdIndex.B11 : List Nat := [0, 1, 0, 7, 15, 31, 0, 64, 0, 448, 960, 1984, 4095, 8191, 16383, 32767, 16383, 131071, 262143, 524287, 16383, 1064959, 16383, 7356415, 15745023, 32522239, 67108863, 134217727, 268435455, 536870911, 1073741823, 536870911, 4294967295, 8589934591, 17179869183, 536870911, 34896609279, 536870911, 241055039487, 515932946431, 1065688760319, 2199023255551, 4398046511103, 8796093022207]
theorem laws_sdIndex.tab11 : rtab .any (opsOf Tryz.f8 11) = laws_sdIndex.T11 := by kernel_rfl
theorem laws_sdIndex.bits11 : waitsOk laws_sdIndex.T11.2 laws_sdIndex.B11 = true := by kernel_rfl
set_option maxHeartbeats 8000000 in
set_option maxRecDepth 100000 in
theorem laws_sdIndex.calls (k : Nat) (A0_0 : Option Addr) (c0_0 : Nat) (l0_0 : List (S79)) (A0_1 : Option Addr) (c0_1 : Nat) (l0_1 : List (S59)) (A0_2 : Option Addr) (c0_2 : Nat) (l0_2 : List (S62)) (a0_3 : Int) (A1_0 : Option Addr) (c1_0 : Nat) (l1_0 : List (S79)) (A1_1 : Option Addr) (c1_1 : Nat) (l1_1 : List (S59)) (A1_2 : Option Addr) (c1_2 : Nat) (l1_2 : List (S62)) (a1_3 : Int) (r : Bool) (w : World) (hr0_0 : Kd.C k79 w A0_0 l0_0.length l0_0) (hc0_0 : l0_0.length ≤ c0_0) (hr0_1 : Kd.C k59 w A0_1 l0_1.length l0_1) (hc0_1 : l0_1.length ≤ c0_1) (hr0_2 : Kd.C k62 w A0_2 l0_2.length l0_2) (hc0_2 : l0_2.length ≤ c0_2) (hr1_0 : Kd.C k79 w A1_0 l1_0.length l1_0) (hc1_0 : l1_0.length ≤ c1_0) (hr1_1 : Kd.C k59 w A1_1 l1_1.length l1_1) (hc1_1 : l1_1.length ≤ c1_1) (hr1_2 : Kd.C k62 w A1_2 l1_2.length l1_2) (hc1_2 : l1_2.length ≤ c1_2) (h : laws_sdIndex.f k l0_0 l0_1 l0_2 a0_3 l1_0 l1_1 l1_2 a1_3 = some r) :
  Calls Tryz.prog 8 #[.agg #[.slice A0_0 l0_0.length c0_0, .slice A0_1 l0_1.length c0_1, .slice A0_2 l0_2.length c0_2, .int .i64 a0_3], .agg #[.slice A1_0 l1_0.length c1_0, .slice A1_1 l1_1.length c1_1, .slice A1_2 l1_2.length c1_2, .int .i64 a1_3]] w fun e w' => e = .returned (.bool r) ∧ Below w.heap.size w w' := by
 have hu28 := Tryz.underlying28; have hu45 := Tryz.underlying45; have HR0_0 := am_ hr0_0; have HC0_0 := am_ hc0_0; clear hr0_0 hc0_0; have HR0_1 := am_ hr0_1; have HC0_1 := am_ hc0_1; clear hr0_1 hc0_1; have HR0_2 := am_ hr0_2; have HC0_2 := am_ hc0_2; clear hr0_2 hc0_2; have HR1_0 := am_ hr1_0; have HC1_0 := am_ hc1_0; clear hr1_0 hc1_0; have HR1_1 := am_ hr1_1; have HC1_1 := am_ hc1_1; clear hr1_1 hc1_1; have HR1_2 := am_ hr1_2; have HC1_2 := am_ hc1_2; clear hr1_2 hc1_2; have HB := am_ (Below.refl w.heap.size w); have H : ((laws_sdFields.f k l0_0 l1_0).bind fun t228 => (if t228 = true then (if (l0_1.length : Int) = (l1_1.length : Int) then (if (l0_2.length : Int) = (l1_2.length : Int) then (laws_sdIndex.j0 k (a0_3 != a1_3) l0_0 l0_1 l0_2 a0_3 l1_0 l1_1 l1_2 a1_3) else (laws_sdIndex.j0 k true l0_0 l0_1 l0_2 a0_3 l1_0 l1_1 l1_2 a1_3)) else (laws_sdIndex.j0 k true l0_0 l0_1 l0_2 a0_3 l1_0 l1_1 l1_2 a1_3)) else (laws_sdIndex.j0 k true l0_0 l0_1 l0_2 a0_3 l1_0 l1_1 l1_2 a1_3))) = some r := h; clear h; have HC3 := am_ H; clear H; go_enter Tryz.func8, Tryz.ntmps8
 go_upto_region 1 with (first | ((with_reducible refine gate_dst (N := 2) rfl ?_); (try (refine gate_guard u32_ ?_; dsimp only)); refine box_event ?hg (N := 2) ?hd (cs := #[.slice A0_0 l0_0.length c0_0, .slice A0_1 l0_1.length c0_1, .slice A0_2 l0_2.length c0_2, .int .i64 a0_3]) (t := 28) ?hr ?_; (case hd => rfl); (case hg => rfl); (case hr => exact u30_); intro gb226 hg w4 hbox hb; have BK226 := am_ (hbox); have GW226 := am_ ((by rw [hg]; exact (below_size u5_) : w.heap.size ≤ gb226)); have GE226 := GW226; replace HB := am_ (below_step u5_ hb); clear hb hbox hg) | ((with_reducible refine gate_dst (N := 3) rfl ?_); (try (refine gate_guard u32_ ?_; dsimp only)); refine box_event ?hg (N := 3) ?hd (cs := #[.slice A1_0 l1_0.length c1_0, .slice A1_1 l1_1.length c1_1, .slice A1_2 l1_2.length c1_2, .int .i64 a1_3]) (t := 28) ?hr ?_; (case hd => rfl); (case hg => rfl); (case hr => exact u30_); intro gb227 hg w5 hbox hb; have BK227 := am_ (hbox); have GW227 := am_ ((by rw [hg]; exact (below_size u78_) : w.heap.size ≤ gb227)); have GE227 := GW227; replace HB := am_ (below_step u78_ hb); have NB226_227 := am_ ((by rw [hg]; exact Nat.ne_of_lt (blk_lt (g := gb226) (o := .cells #[.slice A0_0 l0_0.length c0_0, .slice A0_1 l0_1.length c0_1, .slice A0_2 l0_2.length c0_2, .int .i64 a0_3] 28 (0, 0)) u24_) : gb226 ≠ gb227)); have NB227_226 := am_ ((by rw [hg]; exact Nat.ne_of_gt (blk_lt (g := gb226) (o := .cells #[.slice A0_0 l0_0.length c0_0, .slice A0_1 l0_1.length c0_1, .slice A0_2 l0_2.length c0_2, .int .i64 a0_3] 28 (0, 0)) u24_) : gb227 ≠ gb226)); replace BK226 := am_ (blk_below (g := gb226) (o := .cells #[.slice A0_0 l0_0.length c0_0, .slice A0_1 l0_1.length c0_1, .slice A0_2 l0_2.length c0_2, .int .i64 a0_3] 28 (0, 0)) u24_ hb); clear hb hbox hg))
 (try simp only [Act.put, List.setIfInBounds_toArray, List.set_cons_zero, List.set_cons_succ])
 go_cut [37] (fun v37 wc => ∃ (kq : Nat) (x37_2 : Bool), v37 = .bool x37_2 ∧ Aside0 (laws_sdIndex.j0 kq x37_2 l0_0 l0_1 l0_2 a0_3 l1_0 l1_1 l1_2 a1_3 = some r) ∧ Aside0 (kq ≤ k) ∧ Aside0 (wc.heap[gb226]? = some (.cells #[(.slice A0_0 l0_0.length c0_0), (.slice A0_1 l0_1.length c0_1), (.slice A0_2 l0_2.length c0_2), .int .i64 a0_3] 28 (0, 0))) ∧ Aside0 (wc.heap[gb227]? = some (.cells #[(.slice A1_0 l1_0.length c1_0), (.slice A1_1 l1_1.length c1_1), (.slice A1_2 l1_2.length c1_2), .int .i64 a1_3] 28 (0, 0))) ∧ Aside0 (Below w.heap.size w wc))
 case first =>
  have H := HC3.out; clear HC3; replace H := Option.bind_eq_some_iff.mp H; obtain ⟨t228, A60, H⟩ := H; replace H : (if t228 = true then (if (l0_1.length : Int) = (l1_1.length : Int) then (if (l0_2.length : Int) = (l1_2.length : Int) then (laws_sdIndex.j0 k (a0_3 != a1_3) l0_0 l0_1 l0_2 a0_3 l1_0 l1_1 l1_2 a1_3) else (laws_sdIndex.j0 k true l0_0 l0_1 l0_2 a0_3 l1_0 l1_1 l1_2 a1_3)) else (laws_sdIndex.j0 k true l0_0 l0_1 l0_2 a0_3 l1_0 l1_1 l1_2 a1_3)) else (laws_sdIndex.j0 k true l0_0 l0_1 l0_2 a0_3 l1_0 l1_1 l1_2 a1_3)) = some r := H; have A6 := am_ A60; clear A60; by_cases c7 : t228 = true
  ·subst c7; rw [if_pos rfl] at H; by_cases c8 : (l0_1.length : Int) = (l1_1.length : Int)
   ·rw [if_pos c8] at H; have c8b0 : ((l0_1.length : Int) == (l1_1.length : Int)) = true := beq_iff_eq.mpr c8; have c8b1 : ((l0_1.length : Int) != (l1_1.length : Int)) = false := bne_eq_false_iff_eq.mpr c8; have c8b2 : (l0_1.length == l1_1.length) = true := by first | simpa using c8 | (simp at c8 ⊢; omega)
    clear c8; (first | rw [c8b0] | (simp only [i64_w, i32_w]; rw [c8b0]) | skip)
    by_cases c9 : (l0_2.length : Int) = (l1_2.length : Int)
    ·rw [if_pos c9] at H; have c9b0 : ((l0_2.length : Int) == (l1_2.length : Int)) = true := beq_iff_eq.mpr c9; have c9b1 : ((l0_2.length : Int) != (l1_2.length : Int)) = false := bne_eq_false_iff_eq.mpr c9; have c9b2 : (l0_2.length == l1_2.length) = true := by first | simpa using c9 | (simp at c9 ⊢; omega)
     clear c9; have H' := am_ H; clear H; have hnb10 := NB226_227.out; have hnc10 := NB227_226.out; have hcz11_0 : w5.cell? ⟨gb226, 0, none⟩ = some (.slice A0_0 l0_0.length c0_0) := (blk_cell BK226.out 0).trans rfl; have hcz11_1 : w5.cell? ⟨gb226, 1, none⟩ = some (.slice A0_1 l0_1.length c0_1) := (blk_cell BK226.out 1).trans rfl; have hcz11_2 : w5.cell? ⟨gb226, 2, none⟩ = some (.slice A0_2 l0_2.length c0_2) := (blk_cell BK226.out 2).trans rfl; have hcz11_3 : w5.cell? ⟨gb226, 3, none⟩ = some (.int .i64 a0_3) := (blk_cell BK226.out 3).trans rfl; have hfz11_0 := blk_frozen BK226.out 0; have hfz11_1 := blk_frozen BK226.out 1; have hfz11_2 := blk_frozen BK226.out 2; have hfz11_3 := blk_frozen BK226.out 3; have hcz12_0 : w5.cell? ⟨gb227, 0, none⟩ = some (.slice A1_0 l1_0.length c1_0) := (blk_cell BK227.out 0).trans rfl; have hcz12_1 : w5.cell? ⟨gb227, 1, none⟩ = some (.slice A1_1 l1_1.length c1_1) := (blk_cell BK227.out 1).trans rfl; have hcz12_2 : w5.cell? ⟨gb227, 2, none⟩ = some (.slice A1_2 l1_2.length c1_2) := (blk_cell BK227.out 2).trans rfl; have hcz12_3 : w5.cell? ⟨gb227, 3, none⟩ = some (.int .i64 a1_3) := (blk_cell BK227.out 3).trans rfl; have hfz12_0 := blk_frozen BK227.out 0; have hfz12_1 := blk_frozen BK227.out 1; have hfz12_2 := blk_frozen BK227.out 2; have hfz12_3 := blk_frozen BK227.out 3; go_wp2_with (first | ((with_reducible refine gate_callee (f := 27) rfl ?_); refine goesL_ (some 11) rfl rfl Tryz.func27 u10_ rfl #[.slice A0_0 l0_0.length c0_0, .slice A1_0 l1_0.length c1_0] rfl u3_ ?_; (with_reducible refine (laws_sdFields.calls k _ _ l0_0 _ _ l1_0 true _ ?side1 ?side2 ?side3 ?side4 A6.out).mono ?_); (case side1 => exact u47_); (case side2 => exact HC0_0.out); (case side3 => exact u48_); (case side4 => exact HC1_0.out); rintro e w' ⟨rfl, ⟨nd, rfl⟩⟩; refine ⟨_, rfl, ?_⟩))
     go_meet
     case rel => exact ⟨_, ((a0_3 != a1_3)), u20_, H', ⟨u56_⟩, ⟨u24_⟩, ⟨u31_⟩, ⟨u11_⟩⟩
    ·rw [if_neg c9] at H; have c9b0 : ((l0_2.length : Int) == (l1_2.length : Int)) = false := beq_eq_false_iff_ne.mpr c9; have c9b1 : ((l0_2.length : Int) != (l1_2.length : Int)) = true := bne_iff_ne.mpr c9; have c9b2 : (l0_2.length == l1_2.length) = false := by first | simpa using c9 | (simp at c9 ⊢; omega)
     have H' := am_ H; clear H; have hnb13 := NB226_227.out; have hnc13 := NB227_226.out; have hcz14_0 : w5.cell? ⟨gb226, 0, none⟩ = some (.slice A0_0 l0_0.length c0_0) := (blk_cell BK226.out 0).trans rfl; have hcz14_1 : w5.cell? ⟨gb226, 1, none⟩ = some (.slice A0_1 l0_1.length c0_1) := (blk_cell BK226.out 1).trans rfl; have hcz14_2 : w5.cell? ⟨gb226, 2, none⟩ = some (.slice A0_2 l0_2.length c0_2) := (blk_cell BK226.out 2).trans rfl; have hcz14_3 : w5.cell? ⟨gb226, 3, none⟩ = some (.int .i64 a0_3) := (blk_cell BK226.out 3).trans rfl; have hfz14_0 := blk_frozen BK226.out 0; have hfz14_1 := blk_frozen BK226.out 1; have hfz14_2 := blk_frozen BK226.out 2; have hfz14_3 := blk_frozen BK226.out 3; have hcz15_0 : w5.cell? ⟨gb227, 0, none⟩ = some (.slice A1_0 l1_0.length c1_0) := (blk_cell BK227.out 0).trans rfl; have hcz15_1 : w5.cell? ⟨gb227, 1, none⟩ = some (.slice A1_1 l1_1.length c1_1) := (blk_cell BK227.out 1).trans rfl; have hcz15_2 : w5.cell? ⟨gb227, 2, none⟩ = some (.slice A1_2 l1_2.length c1_2) := (blk_cell BK227.out 2).trans rfl; have hcz15_3 : w5.cell? ⟨gb227, 3, none⟩ = some (.int .i64 a1_3) := (blk_cell BK227.out 3).trans rfl; have hfz15_0 := blk_frozen BK227.out 0; have hfz15_1 := blk_frozen BK227.out 1; have hfz15_2 := blk_frozen BK227.out 2; have hfz15_3 := blk_frozen BK227.out 3; go_wp2_with (first | ((with_reducible refine gate_callee (f := 27) rfl ?_); refine goesL_ (some 11) rfl rfl Tryz.func27 u10_ rfl #[.slice A0_0 l0_0.length c0_0, .slice A1_0 l1_0.length c1_0] rfl u3_ ?_; (with_reducible refine (laws_sdFields.calls k _ _ l0_0 _ _ l1_0 true _ ?side1 ?side2 ?side3 ?side4 A6.out).mono ?_); (case side1 => exact u47_); (case side2 => exact HC0_0.out); (case side3 => exact u48_); (case side4 => exact HC1_0.out); rintro e w' ⟨rfl, ⟨nd, rfl⟩⟩; refine ⟨_, rfl, ?_⟩))
     go_meet
     case rel => exact ⟨_, (true), u20_, H', ⟨u56_⟩, ⟨u24_⟩, ⟨u31_⟩, ⟨u11_⟩⟩
   ·rw [if_neg c8] at H; have c8b0 : ((l0_1.length : Int) == (l1_1.length : Int)) = false := beq_eq_false_iff_ne.mpr c8; have c8b1 : ((l0_1.length : Int) != (l1_1.length : Int)) = true := bne_iff_ne.mpr c8; have c8b2 : (l0_1.length == l1_1.length) = false := by first | simpa using c8 | (simp at c8 ⊢; omega)
    (first | rw [c8b0] | (simp only [i64_w, i32_w]; rw [c8b0]) | skip)
    have H' := am_ H; clear H; have hnb16 := NB226_227.out; have hnc16 := NB227_226.out; have hcz17_0 : w5.cell? ⟨gb226, 0, none⟩ = some (.slice A0_0 l0_0.length c0_0) := (blk_cell BK226.out 0).trans rfl; have hcz17_1 : w5.cell? ⟨gb226, 1, none⟩ = some (.slice A0_1 l0_1.length c0_1) := (blk_cell BK226.out 1).trans rfl; have hcz17_2 : w5.cell? ⟨gb226, 2, none⟩ = some (.slice A0_2 l0_2.length c0_2) := (blk_cell BK226.out 2).trans rfl; have hcz17_3 : w5.cell? ⟨gb226, 3, none⟩ = some (.int .i64 a0_3) := (blk_cell BK226.out 3).trans rfl; have hfz17_0 := blk_frozen BK226.out 0; have hfz17_1 := blk_frozen BK226.out 1; have hfz17_2 := blk_frozen BK226.out 2; have hfz17_3 := blk_frozen BK226.out 3; have hcz18_0 : w5.cell? ⟨gb227, 0, none⟩ = some (.slice A1_0 l1_0.length c1_0) := (blk_cell BK227.out 0).trans rfl; have hcz18_1 : w5.cell? ⟨gb227, 1, none⟩ = some (.slice A1_1 l1_1.length c1_1) := (blk_cell BK227.out 1).trans rfl; have hcz18_2 : w5.cell? ⟨gb227, 2, none⟩ = some (.slice A1_2 l1_2.length c1_2) := (blk_cell BK227.out 2).trans rfl; have hcz18_3 : w5.cell? ⟨gb227, 3, none⟩ = some (.int .i64 a1_3) := (blk_cell BK227.out 3).trans rfl; have hfz18_0 := blk_frozen BK227.out 0; have hfz18_1 := blk_frozen BK227.out 1; have hfz18_2 := blk_frozen BK227.out 2; have hfz18_3 := blk_frozen BK227.out 3; go_wp2_with (first | ((with_reducible refine gate_callee (f := 27) rfl ?_); refine goesL_ (some 11) rfl rfl Tryz.func27 u10_ rfl #[.slice A0_0 l0_0.length c0_0, .slice A1_0 l1_0.length c1_0] rfl u3_ ?_; (with_reducible refine (laws_sdFields.calls k _ _ l0_0 _ _ l1_0 true _ ?side1 ?side2 ?side3 ?side4 A6.out).mono ?_); (case side1 => exact u47_); (case side2 => exact HC0_0.out); (case side3 => exact u48_); (case side4 => exact HC1_0.out); rintro e w' ⟨rfl, ⟨nd, rfl⟩⟩; refine ⟨_, rfl, ?_⟩))
    go_meet
    case rel => exact ⟨_, (true), u20_, H', ⟨u56_⟩, ⟨u24_⟩, ⟨u31_⟩, ⟨u11_⟩⟩
  ·replace c7 := Bool.eq_false_iff.mpr c7; subst c7; rw [if_neg (show ¬ (false = true) by decide)] at H; have H' := am_ H; clear H; have hnb19 := NB226_227.out; have hnc19 := NB227_226.out; have hcz20_0 : w5.cell? ⟨gb226, 0, none⟩ = some (.slice A0_0 l0_0.length c0_0) := (blk_cell BK226.out 0).trans rfl; have hcz20_1 : w5.cell? ⟨gb226, 1, none⟩ = some (.slice A0_1 l0_1.length c0_1) := (blk_cell BK226.out 1).trans rfl; have hcz20_2 : w5.cell? ⟨gb226, 2, none⟩ = some (.slice A0_2 l0_2.length c0_2) := (blk_cell BK226.out 2).trans rfl; have hcz20_3 : w5.cell? ⟨gb226, 3, none⟩ = some (.int .i64 a0_3) := (blk_cell BK226.out 3).trans rfl; have hfz20_0 := blk_frozen BK226.out 0; have hfz20_1 := blk_frozen BK226.out 1; have hfz20_2 := blk_frozen BK226.out 2; have hfz20_3 := blk_frozen BK226.out 3; have hcz21_0 : w5.cell? ⟨gb227, 0, none⟩ = some (.slice A1_0 l1_0.length c1_0) := (blk_cell BK227.out 0).trans rfl; have hcz21_1 : w5.cell? ⟨gb227, 1, none⟩ = some (.slice A1_1 l1_1.length c1_1) := (blk_cell BK227.out 1).trans rfl; have hcz21_2 : w5.cell? ⟨gb227, 2, none⟩ = some (.slice A1_2 l1_2.length c1_2) := (blk_cell BK227.out 2).trans rfl; have hcz21_3 : w5.cell? ⟨gb227, 3, none⟩ = some (.int .i64 a1_3) := (blk_cell BK227.out 3).trans rfl; have hfz21_0 := blk_frozen BK227.out 0; have hfz21_1 := blk_frozen BK227.out 1; have hfz21_2 := blk_frozen BK227.out 2; have hfz21_3 := blk_frozen BK227.out 3; go_wp2_with (first | ((with_reducible refine gate_callee (f := 27) rfl ?_); refine goesL_ (some 11) rfl rfl Tryz.func27 u10_ rfl #[.slice A0_0 l0_0.length c0_0, .slice A1_0 l1_0.length c1_0] rfl u3_ ?_; (with_reducible refine (laws_sdFields.calls k _ _ l0_0 _ _ l1_0 false _ ?side1 ?side2 ?side3 ?side4 A6.out).mono ?_); (case side1 => exact u47_); (case side2 => exact HC0_0.out); (case side3 => exact u48_); (case side4 => exact HC1_0.out); rintro e w' ⟨rfl, ⟨nd, rfl⟩⟩; refine ⟨_, rfl, ?_⟩))
   go_meet
   case rel => exact ⟨_, (true), u20_, H', ⟨u56_⟩, ⟨u24_⟩, ⟨u31_⟩, ⟨u11_⟩⟩
 case rest =>
  clear HC3; try clear c1
  try clear c2
  try clear p2
  try clear c7
  try clear c8
  try clear c8b0
  try clear c8b1
  try clear c8b2
  try clear c9
  try clear c9b0
  try clear c9b1
  try clear c9b2
  try clear c10
  try clear c13
  try clear c16
  try clear c19
  try clear hcz11_0
  try clear hcz11_1
  try clear hcz11_2
  try clear hcz11_3
  try clear hcz12_0
  try clear hcz12_1
  try clear hcz12_2
  try clear hcz12_3
  try clear hcz14_0
  try clear hcz14_1
  try clear hcz14_2
  try clear hcz14_3
  try clear hcz15_0
  try clear hcz15_1
  try clear hcz15_2
  try clear hcz15_3
  try clear hcz17_0
  try clear hcz17_1
  try clear hcz17_2
  try clear hcz17_3
  try clear hcz18_0
  try clear hcz18_1
  try clear hcz18_2
  try clear hcz18_3
  try clear hcz20_0
  try clear hcz20_1
  try clear hcz20_2
  try clear hcz20_3
  try clear hcz21_0
  try clear hcz21_1
  try clear hcz21_2
  try clear hcz21_3
  try clear hfz11_0
  try clear hfz11_1
  try clear hfz11_2
  try clear hfz11_3
  try clear hfz12_0
  try clear hfz12_1
  try clear hfz12_2
  try clear hfz12_3
  try clear hfz14_0
  try clear hfz14_1
  try clear hfz14_2
  try clear hfz14_3
  try clear hfz15_0
  try clear hfz15_1
  try clear hfz15_2
  try clear hfz15_3
  try clear hfz17_0
  try clear hfz17_1
  try clear hfz17_2
  try clear hfz17_3
  try clear hfz18_0
  try clear hfz18_1
  try clear hfz18_2
  try clear hfz18_3
  try clear hfz20_0
  try clear hfz20_1
  try clear hfz20_2
  try clear hfz20_3
  try clear hfz21_0
  try clear hfz21_1
  try clear hfz21_2
  try clear hfz21_3
  obtain ⟨kq, x37_2, rfl, HA, HJ2, BK226, BK227, HB⟩ := hcut; cases kq with
  | zero => exact absurd HA.out (by simp [laws_sdIndex.j0])
  | succ kj2 =>
   have H := HA.out; clear HA; simp only [laws_sdIndex.j0] at H; by_cases c22 : x37_2 = true
   ·subst c22; rw [if_pos rfl] at H; obtain rfl := Option.some.inj H; go_wp2; go_ret
    exact ⟨u8_, u11_⟩
   ·replace c22 := Bool.eq_false_iff.mpr c22; subst c22; rw [if_neg (show ¬ (false = true) by decide)] at H; have H' := am_ H; clear H; go_wp2; go_loopg [5] kj2 (fun kq v5 w' => ∃ (x5_2 : Int), v5 = .int .i64 x5_2 ∧ Aside0 (laws_sdIndex.l0 kq x5_2 l0_0 l0_1 l0_2 a0_3 l1_0 l1_1 l1_2 a1_3 = some r) ∧ Aside0 (kq ≤ kj2) ∧ Aside0 (w'.heap[gb226]? = some (.cells #[(.slice A0_0 l0_0.length c0_0), (.slice A0_1 l0_1.length c0_1), (.slice A0_2 l0_2.length c0_2), .int .i64 a0_3] 28 (0, 0))) ∧ Aside0 (w'.heap[gb227]? = some (.cells #[(.slice A1_0 l1_0.length c1_0), (.slice A1_1 l1_1.length c1_1), (.slice A1_2 l1_2.length c1_2), .int .i64 a1_3] 28 (0, 0))) ∧ Aside0 (Below w.heap.size w w'))
    case atStart => exact ⟨(0), u20_, H', ⟨Nat.le_refl _⟩, ⟨u24_⟩, ⟨u31_⟩, ⟨u11_⟩⟩
    case round =>
     clear H'; try clear c1
     try clear c2
     try clear p2
     try clear c7
     try clear c8
     try clear c8b0
     try clear c8b1
     try clear c8b2
     try clear c9
     try clear c9b0
     try clear c9b1
     try clear c9b2
     try clear c10
     try clear c13
     try clear c16
     try clear c19
     try clear c22
     try clear hcz11_0
     try clear hcz11_1
     try clear hcz11_2
     try clear hcz11_3
     try clear hcz12_0
     try clear hcz12_1
     try clear hcz12_2
     try clear hcz12_3
     try clear hcz14_0
     try clear hcz14_1
     try clear hcz14_2
     try clear hcz14_3
     try clear hcz15_0
     try clear hcz15_1
     try clear hcz15_2
     try clear hcz15_3
     try clear hcz17_0
     try clear hcz17_1
     try clear hcz17_2
     try clear hcz17_3
     try clear hcz18_0
     try clear hcz18_1
     try clear hcz18_2
     try clear hcz18_3
     try clear hcz20_0
     try clear hcz20_1
     try clear hcz20_2
     try clear hcz20_3
     try clear hcz21_0
     try clear hcz21_1
     try clear hcz21_2
     try clear hcz21_3
     try clear hfz11_0
     try clear hfz11_1
     try clear hfz11_2
     try clear hfz11_3
     try clear hfz12_0
     try clear hfz12_1
     try clear hfz12_2
     try clear hfz12_3
     try clear hfz14_0
     try clear hfz14_1
     try clear hfz14_2
     try clear hfz14_3
     try clear hfz15_0
     try clear hfz15_1
     try clear hfz15_2
     try clear hfz15_3
     try clear hfz17_0
     try clear hfz17_1
     try clear hfz17_2
     try clear hfz17_3
     try clear hfz18_0
     try clear hfz18_1
     try clear hfz18_2
     try clear hfz18_3
     try clear hfz20_0
     try clear hfz20_1
     try clear hfz20_2
     try clear hfz20_3
     try clear hfz21_0
     try clear hfz21_1
     try clear hfz21_2
     try clear hfz21_3
     try clear p2
     obtain ⟨x5_2, rfl, HA, HK2, BK226, BK227, HB⟩ := hrel; cases gk with
     | zero => exact absurd HA.out (by simp [laws_sdIndex.l0])
     | succ k2 =>
      have H := HA.out; clear HA; simp only [laws_sdIndex.l0] at H; by_cases c23 : x5_2 < (l0_1.length : Int)
      ·rw [if_pos c23] at H; have c23b0 : decide (x5_2 < (l0_1.length : Int)) = true := decide_eq_true c23; clear c23; by_cases c24 : 0 ≤ x5_2
       ·rw [if_pos c24] at H; have c24b0 : decide (0 ≤ x5_2) = true := decide_eq_true c24; clear c24; by_cases c25 : x5_2 < (l1_1.length : Int)
        ·rw [if_pos c25] at H; have c25b0 : decide (x5_2 < (l1_1.length : Int)) = true := decide_eq_true c25; clear c25; by_cases c26 : ((rd_T59 l0_1 x5_2).f0) = ((rd_T59 l1_1 x5_2).f0)
         ·rw [if_pos c26] at H; have c26b0 : (((rd_T59 l0_1 x5_2).f0) == ((rd_T59 l1_1 x5_2).f0)) = true := beq_iff_eq.mpr c26; have c26b1 : (((rd_T59 l0_1 x5_2).f0) != ((rd_T59 l1_1 x5_2).f0)) = false := bne_eq_false_iff_eq.mpr c26; clear c26; replace H := Option.bind_eq_some_iff.mp H; obtain ⟨t233, A270, H⟩ := H; replace H : (if t233 = true then (laws_sdIndex.l0 k2 (wrap64 (x5_2 + 1)) l0_0 l0_1 l0_2 a0_3 l1_0 l1_1 l1_2 a1_3) else (some false)) = some r := H; have A27 := am_ A270; clear A270; by_cases c28 : t233 = true
          ·subst c28; rw [if_pos rfl] at H; have H' := am_ H; clear H; have hnb29 := NB226_227.out; have hnc29 := NB227_226.out; have hcz30_0 : wr.cell? ⟨gb226, 0, none⟩ = some (.slice A0_0 l0_0.length c0_0) := (blk_cell BK226.out 0).trans rfl; have hcz30_1 : wr.cell? ⟨gb226, 1, none⟩ = some (.slice A0_1 l0_1.length c0_1) := (blk_cell BK226.out 1).trans rfl; have hcz30_2 : wr.cell? ⟨gb226, 2, none⟩ = some (.slice A0_2 l0_2.length c0_2) := (blk_cell BK226.out 2).trans rfl; have hcz30_3 : wr.cell? ⟨gb226, 3, none⟩ = some (.int .i64 a0_3) := (blk_cell BK226.out 3).trans rfl; have hfz30_0 := blk_frozen BK226.out 0; have hfz30_1 := blk_frozen BK226.out 1; have hfz30_2 := blk_frozen BK226.out 2; have hfz30_3 := blk_frozen BK226.out 3; try go_wp2
           replace BK226 := am_ (blk_drew BK226.out); replace BK227 := am_ (blk_drew BK227.out); replace HB := am_ (below_drew1 HB.out); have p229 : 0 ≤ (x5_2 : Int) := of_decide_eq_true u2_; have q229 : x5_2 < (l0_1.length : Int) := of_decide_eq_true u2_; obtain ⟨ad229, A229_2, c229_2, e229, hx229_0, hx229_1, hx229_2, hl229_2, hi229_2⟩ := at_T59 HR0_1.out x5_2 p229 q229; have hw229_2 := hx229_2; have hw229_1 := hx229_1; have hw229_0 := hx229_0; cases e229; replace hx229_0 := (HB.out.cell (World.block_lt_of_cell? w _ hx229_0)).trans hx229_0; replace hx229_1 := (HB.out.cell (World.block_lt_of_cell? w _ hx229_1)).trans hx229_1; replace hx229_2 := (HB.out.cell (World.block_lt_of_cell? w _ hx229_2)).trans hx229_2; have HR229_2 := am_ hi229_2; have HC229_2 := am_ hl229_2; clear hi229_2 hl229_2; replace p229 := eq_true p229; replace q229 := eq_true q229; have p230 : 0 ≤ (x5_2 : Int) := of_decide_eq_true u2_; have q230 : x5_2 < (l1_1.length : Int) := of_decide_eq_true u2_; obtain ⟨ad230, A230_2, c230_2, e230, hx230_0, hx230_1, hx230_2, hl230_2, hi230_2⟩ := at_T59 HR1_1.out x5_2 p230 q230; have hw230_2 := hx230_2; have hw230_1 := hx230_1; have hw230_0 := hx230_0; cases e230; replace hx230_0 := (HB.out.cell (World.block_lt_of_cell? w _ hx230_0)).trans hx230_0; replace hx230_1 := (HB.out.cell (World.block_lt_of_cell? w _ hx230_1)).trans hx230_1; replace hx230_2 := (HB.out.cell (World.block_lt_of_cell? w _ hx230_2)).trans hx230_2; have HR230_2 := am_ hi230_2; have HC230_2 := am_ hl230_2; clear hi230_2 hl230_2; replace p230 := eq_true p230; replace q230 := eq_true q230; have p231 : 0 ≤ (x5_2 : Int) := of_decide_eq_true u2_; have q231 : x5_2 < (l0_1.length : Int) := of_decide_eq_true u2_; obtain ⟨ad231, A231_2, c231_2, e231, hx231_0, hx231_1, hx231_2, hl231_2, hi231_2⟩ := at_T59 HR0_1.out x5_2 p231 q231; have hw231_2 := hx231_2; have hw231_1 := hx231_1; have hw231_0 := hx231_0; obtain rfl : ad229 = ad231 := (by injection e231); replace hx231_0 := (HB.out.cell (World.block_lt_of_cell? w _ hx231_0)).trans hx231_0; replace hx231_1 := (HB.out.cell (World.block_lt_of_cell? w _ hx231_1)).trans hx231_1; replace hx231_2 := (HB.out.cell (World.block_lt_of_cell? w _ hx231_2)).trans hx231_2; have HR231_2 := am_ hi231_2; have HC231_2 := am_ hl231_2; clear hi231_2 hl231_2; replace p231 := eq_true p231; replace q231 := eq_true q231; have ea_ := Option.some.inj (hx229_2.symm.trans hx231_2); injection ea_ with ea_ en_ ec_
           subst ea_; subst ec_; clear en_; have p232 : 0 ≤ (x5_2 : Int) := of_decide_eq_true u2_; have q232 : x5_2 < (l1_1.length : Int) := of_decide_eq_true u2_; obtain ⟨ad232, A232_2, c232_2, e232, hx232_0, hx232_1, hx232_2, hl232_2, hi232_2⟩ := at_T59 HR1_1.out x5_2 p232 q232; have hw232_2 := hx232_2; have hw232_1 := hx232_1; have hw232_0 := hx232_0; obtain rfl : ad230 = ad232 := (by injection e232); replace hx232_0 := (HB.out.cell (World.block_lt_of_cell? w _ hx232_0)).trans hx232_0; replace hx232_1 := (HB.out.cell (World.block_lt_of_cell? w _ hx232_1)).trans hx232_1; replace hx232_2 := (HB.out.cell (World.block_lt_of_cell? w _ hx232_2)).trans hx232_2; have HR232_2 := am_ hi232_2; have HC232_2 := am_ hl232_2; clear hi232_2 hl232_2; replace p232 := eq_true p232; replace q232 := eq_true q232; have ea_ := Option.some.inj (hx230_2.symm.trans hx232_2); injection ea_ with ea_ en_ ec_
           subst ea_; subst ec_; clear en_; refine start_ (n := 29) (S := fun w' => w'.cell? ⟨gb226, 0, none⟩ = some (.slice A0_0 l0_0.length c0_0) ∧ w'.cell? ⟨gb226, 1, none⟩ = some (.slice (some ad229) l0_1.length c0_1) ∧ w'.cell? ⟨gb226, 2, none⟩ = some (.slice A0_2 l0_2.length c0_2) ∧ w'.cell? ⟨gb226, 3, none⟩ = some (.int .i64 a0_3) ∧ w'.cell? ⟨gb227, 0, none⟩ = some (.slice A1_0 l1_0.length c1_0) ∧ w'.cell? ⟨gb227, 1, none⟩ = some (.slice (some ad230) l1_1.length c1_1) ∧ w'.cell? ⟨gb227, 2, none⟩ = some (.slice A1_2 l1_2.length c1_2) ∧ w'.cell? ⟨gb227, 3, none⟩ = some (.int .i64 a1_3) ∧ w'.cell? (ad229.add ((x5_2).toNat * 3)) = some (.int .i64 ((rd_T59 l0_1 x5_2).f0)) ∧ w'.cell? ⟨(ad229.add ((x5_2).toNat * 3)).block, (ad229.add ((x5_2).toNat * 3)).off + 1, none⟩ = some (.string ((rd_T59 l0_1 x5_2).f1.f0)) ∧ w'.cell? ⟨(ad229.add ((x5_2).toNat * 3)).block, (ad229.add ((x5_2).toNat * 3)).off + 2, none⟩ = some (.slice A229_2 ((rd_T59 l0_1 x5_2).f1.f1).length c229_2) ∧ w'.cell? (ad230.add ((x5_2).toNat * 3)) = some (.int .i64 ((rd_T59 l1_1 x5_2).f0)) ∧ w'.cell? ⟨(ad230.add ((x5_2).toNat * 3)).block, (ad230.add ((x5_2).toNat * 3)).off + 1, none⟩ = some (.string ((rd_T59 l1_1 x5_2).f1.f0)) ∧ w'.cell? ⟨(ad230.add ((x5_2).toNat * 3)).block, (ad230.add ((x5_2).toNat * 3)).off + 2, none⟩ = some (.slice A230_2 ((rd_T59 l1_1 x5_2).f1.f1).length c230_2) ∧ w'.cell? (ad229.add ((x5_2).toNat * 3)) = some (.int .i64 ((rd_T59 l0_1 x5_2).f0)) ∧ w'.cell? ⟨(ad229.add ((x5_2).toNat * 3)).block, (ad229.add ((x5_2).toNat * 3)).off + 1, none⟩ = some (.string ((rd_T59 l0_1 x5_2).f1.f0)) ∧ w'.cell? ⟨(ad229.add ((x5_2).toNat * 3)).block, (ad229.add ((x5_2).toNat * 3)).off + 2, none⟩ = some (.slice A229_2 ((rd_T59 l0_1 x5_2).f1.f1).length c229_2) ∧ w'.cell? (ad230.add ((x5_2).toNat * 3)) = some (.int .i64 ((rd_T59 l1_1 x5_2).f0)) ∧ w'.cell? ⟨(ad230.add ((x5_2).toNat * 3)).block, (ad230.add ((x5_2).toNat * 3)).off + 1, none⟩ = some (.string ((rd_T59 l1_1 x5_2).f1.f0)) ∧ w'.cell? ⟨(ad230.add ((x5_2).toNat * 3)).block, (ad230.add ((x5_2).toNat * 3)).off + 2, none⟩ = some (.slice A230_2 ((rd_T59 l1_1 x5_2).f1.f1).length c230_2)) (ds := []) (bm_ 29 0) u10_ rfl rfl ⟨(blk_cell BK226.out 0).trans rfl, (blk_cell BK226.out 1).trans rfl, (blk_cell BK226.out 2).trans rfl, (blk_cell BK226.out 3).trans rfl, (blk_cell BK227.out 0).trans rfl, (blk_cell BK227.out 1).trans rfl, (blk_cell BK227.out 2).trans rfl, (blk_cell BK227.out 3).trans rfl, ((HB.out.cell (World.block_lt_of_cell? w _ hw229_0)).trans hw229_0), ((HB.out.cell (World.block_lt_of_cell? w _ hw229_1)).trans hw229_1), ((HB.out.cell (World.block_lt_of_cell? w _ hw229_2)).trans hw229_2), ((HB.out.cell (World.block_lt_of_cell? w _ hw230_0)).trans hw230_0), ((HB.out.cell (World.block_lt_of_cell? w _ hw230_1)).trans hw230_1), ((HB.out.cell (World.block_lt_of_cell? w _ hw230_2)).trans hw230_2), ((HB.out.cell (World.block_lt_of_cell? w _ hw231_0)).trans hw231_0), ((HB.out.cell (World.block_lt_of_cell? w _ hw231_1)).trans hw231_1), ((HB.out.cell (World.block_lt_of_cell? w _ hw231_2)).trans hw231_2), ((HB.out.cell (World.block_lt_of_cell? w _ hw232_0)).trans hw232_0), ((HB.out.cell (World.block_lt_of_cell? w _ hw232_1)).trans hw232_1), ((HB.out.cell (World.block_lt_of_cell? w _ hw232_2)).trans hw232_2)⟩ (fun hHeld => ?_); refine with_tabW laws_sdIndex.tab6 laws_sdIndex.bits6 (fun HT_ HW_ => ?_); generalize wr.drew = w31 at BK226 BK227 HB HR229_2 HR230_2 HR231_2 HR232_2 hx229_0 hx229_1 hx229_2 hx230_0 hx230_1 hx230_2 hx231_0 hx231_1 hx231_2 hx232_0 hx232_1 hx232_2 hHeld ⊢; refine pure_ (i := 0) (N := some 45) (v := ?_) (a' := ?_) (bm_ 29 1) rfl rfl (any_of HT_.out u10_) (fun _ _ _ h => h) (Or.inl ⟨u32_, ?_⟩) ?_ ?_; rotate_left
           ·exact u6_
           rotate_left
           ·exact u0_
           refine pure_ (i := 2) (N := some 47) (v := ?_) (a' := ?_) (bm_ 29 5) rfl rfl (any_of HT_.out u10_) (fun _ _ _ h => h) (Or.inl ⟨u32_, ?_⟩) ?_ ?_; rotate_left
           ·exact u6_
           rotate_left
           ·exact u0_
           refine pure_ (i := 6) (N := some 51) (v := ?_) (a' := ?_) (bm_ 29 69) rfl rfl (any_of HT_.out u10_) (fun _ _ _ h => h) (Or.inl ⟨u32_, ?_⟩) ?_ ?_; rotate_left
           ·exact u6_
           rotate_left
           ·exact u0_
           refine pure_ (i := 8) (N := some 53) (v := ?_) (a' := ?_) (bm_ 29 325) rfl rfl (any_of HT_.out u10_) (fun _ _ _ h => h) (Or.inl ⟨u32_, ?_⟩) ?_ ?_; rotate_left
           ·exact u6_
           rotate_left
           ·exact u0_
           refine take_ (i := 1) (N := some 46) (v := ?_) (a' := ?_) (bm_ 29 327) rfl rfl (take_ofW HT_.out HW_.out u10_) (fun _ _ _ h => h) (Or.inl ⟨u32_, ?_⟩) hHeld ?_ ?_; rotate_left
           ·exact u12_
           rotate_left
           ·exact u0_
           refine pure_ (i := 3) (N := some 48) (v := ?_) (a' := ?_) (bm_ 29 335) rfl rfl (any_of HT_.out u10_) (fun _ _ _ h => h) (Or.inl ⟨u32_, ?_⟩) ?_ ?_; rotate_left
           ·exact u6_
           rotate_left
           ·exact u0_
           refine pure_ (i := 4) (N := some 49) (v := ?_) (a' := ?_) (bm_ 29 351) rfl rfl (any_of HT_.out u10_) (fun _ _ _ h => h) (Or.inl ⟨u32_, ?_⟩) ?_ ?_; rotate_left
           ·exact u6_
           rotate_left
           ·exact u0_
           refine take_ (i := 5) (N := some 50) (v := ?_) (a' := ?_) (bm_ 29 383) rfl rfl (take_ofW HT_.out HW_.out u10_) (fun _ _ _ h => h) (Or.inl ⟨u32_, ?_⟩) hHeld ?_ ?_; rotate_left
           ·exact u12_
           rotate_left
           ·exact u0_
           refine take_ (i := 7) (N := some 52) (v := ?_) (a' := ?_) (bm_ 29 511) rfl rfl (take_ofW HT_.out HW_.out u10_) (fun _ _ _ h => h) (Or.inl ⟨u32_, ?_⟩) hHeld ?_ ?_; rotate_left
           ·exact u12_
           rotate_left
           ·exact u0_
           refine pure_ (i := 9) (N := some 54) (v := ?_) (a' := ?_) (bm_ 29 1023) rfl rfl (any_of HT_.out u10_) (fun _ _ _ h => h) (Or.inl ⟨u32_, ?_⟩) ?_ ?_; rotate_left
           ·exact u6_
           rotate_left
           ·exact u0_
           refine pure_ (i := 10) (N := some 55) (v := ?_) (a' := ?_) (bm_ 29 2047) rfl rfl (any_of HT_.out u10_) (fun _ _ _ h => h) (Or.inl ⟨u32_, ?_⟩) ?_ ?_; rotate_left
           ·exact u6_
           rotate_left
           ·exact u0_
           refine take_ (i := 11) (N := some 56) (v := ?_) (a' := ?_) (bm_ 29 4095) rfl rfl (take_ofW HT_.out HW_.out u10_) (fun _ _ _ h => h) (Or.inl ⟨u32_, ?_⟩) hHeld ?_ ?_; rotate_left
           ·exact u12_
           rotate_left
           ·exact u0_
           refine pure_ (i := 12) (N := some 57) (v := ?_) (a' := ?_) (bm_ 29 8191) rfl rfl (any_of HT_.out u10_) (fun _ _ _ h => h) (Or.inl ⟨u32_, ?_⟩) ?_ ?_; rotate_left
           ·exact u6_
           rotate_left
           ·exact u0_
           refine pure_ (i := 13) (N := some 58) (v := ?_) (a' := ?_) (bm_ 29 16383) rfl rfl (any_of HT_.out u10_) (fun _ _ _ h => h) (Or.inl ⟨u32_, ?_⟩) ?_ ?_; rotate_left
           ·exact u6_
           rotate_left
           ·exact u0_
           refine pure_ (i := 14) (N := some 59) (v := ?_) (a' := ?_) (bm_ 29 32767) rfl rfl (any_of HT_.out u10_) (fun _ _ _ h => h) (Or.inl ⟨u32_, ?_⟩) ?_ ?_; rotate_left
           ·exact u6_
           rotate_left
           ·exact u0_
           refine pure_ (i := 16) (N := some 61) (v := ?_) (a' := ?_) (bm_ 29 98303) rfl rfl (any_of HT_.out u10_) (fun _ _ _ h => h) (Or.inl ⟨u32_, ?_⟩) ?_ ?_; rotate_left
           ·exact u6_
           rotate_left
           ·exact u0_
           refine pure_ (i := 20) (N := some 65) (v := ?_) (a' := ?_) (bm_ 29 1146879) rfl rfl (any_of HT_.out u10_) (fun _ _ _ h => h) (Or.inl ⟨u32_, ?_⟩) ?_ ?_; rotate_left
           ·exact u6_
           rotate_left
           ·exact u0_
           refine pure_ (i := 22) (N := some 67) (v := ?_) (a' := ?_) (bm_ 29 5341183) rfl rfl (any_of HT_.out u10_) (fun _ _ _ h => h) (Or.inl ⟨u32_, ?_⟩) ?_ ?_; rotate_left
           ·exact u6_
           rotate_left
           ·exact u0_
           refine take_ (i := 15) (N := some 60) (v := ?_) (a' := ?_) (bm_ 29 5373951) rfl rfl (take_ofW HT_.out HW_.out u10_) (fun _ _ _ h => h) (Or.inl ⟨u32_, ?_⟩) hHeld ?_ ?_; rotate_left
           ·exact u12_
           rotate_left
           ·exact u0_
           refine pure_ (i := 17) (N := some 62) (v := ?_) (a' := ?_) (bm_ 29 5505023) rfl rfl (any_of HT_.out u10_) (fun _ _ _ h => h) (Or.inl ⟨u32_, ?_⟩) ?_ ?_; rotate_left
           ·exact u6_
           rotate_left
           ·exact u0_
           refine pure_ (i := 18) (N := some 63) (v := ?_) (a' := ?_) (bm_ 29 5767167) rfl rfl (any_of HT_.out u10_) (fun _ _ _ h => h) (Or.inl ⟨u32_, ?_⟩) ?_ ?_; rotate_left
           ·exact u6_
           rotate_left
           ·exact u0_
           refine take_ (i := 19) (N := some 64) (v := ?_) (a' := ?_) (bm_ 29 6291455) rfl rfl (take_ofW HT_.out HW_.out u10_) (fun _ _ _ h => h) (Or.inl ⟨u32_, ?_⟩) hHeld ?_ ?_; rotate_left
           ·exact u12_
           rotate_left
           ·exact u0_
           refine take_ (i := 21) (N := some 66) (v := ?_) (a' := ?_) (bm_ 29 8388607) rfl rfl (take_ofW HT_.out HW_.out u10_) (fun _ _ _ h => h) (Or.inl ⟨u32_, ?_⟩) hHeld ?_ ?_; rotate_left
           ·exact u12_
           rotate_left
           ·exact u0_
           refine pure_ (i := 23) (N := some 68) (v := ?_) (a' := ?_) (bm_ 29 16777215) rfl rfl (any_of HT_.out u10_) (fun _ _ _ h => h) (Or.inl ⟨u32_, ?_⟩) ?_ ?_; rotate_left
           ·exact u6_
           rotate_left
           ·exact u0_
           refine pure_ (i := 24) (N := some 69) (v := ?_) (a' := ?_) (bm_ 29 33554431) rfl rfl (any_of HT_.out u10_) (fun _ _ _ h => h) (Or.inl ⟨u32_, ?_⟩) ?_ ?_; rotate_left
           ·exact u6_
           rotate_left
           ·exact u0_
           refine take_ (i := 25) (N := some 70) (v := ?_) (a' := ?_) (bm_ 29 67108863) rfl rfl (take_ofW HT_.out HW_.out u10_) (fun _ _ _ h => h) (Or.inl ⟨u32_, ?_⟩) hHeld ?_ ?_; rotate_left
           ·exact u12_
           rotate_left
           ·exact u0_
           refine one_ (i := 26) (N := some 71) (bm_ 29 134217727) rfl rfl (one_of HT_.out u10_) u44_ (fun K hK => ?_); refine goes_ Tryz.func28 u10_ rfl #[.agg #[.string ((rd_T59 l0_1 x5_2).f1.f0), .slice A229_2 ((rd_T59 l0_1 x5_2).f1.f1).length c229_2], .agg #[.string ((rd_T59 l1_1 x5_2).f1.f0), .slice A230_2 ((rd_T59 l1_1 x5_2).f1.f1).length c230_2]] u32_ rfl rfl u3_ ?_; with_reducible refine (laws_sdDoc.calls k2 ((rd_T59 l0_1 x5_2).f1.f0) _ _ ((rd_T59 l0_1 x5_2).f1.f1) ((rd_T59 l1_1 x5_2).f1.f0) _ _ ((rd_T59 l1_1 x5_2).f1.f1) true _ ?side1 ?side2 ?side3 ?side4 A27.out).mono ?_
           (case side1 => exact u74_)
           (case side2 => exact HC231_2.out)
           (case side3 => exact u75_)
           (case side4 => exact HC232_2.out)
           rintro e w32 ⟨rfl, hb⟩; refine ⟨_, rfl, ?_⟩; replace BK226 := am_ (blk_below (g := gb226) (o := .cells #[.slice A0_0 l0_0.length c0_0, .slice (some ad229) l0_1.length c0_1, .slice A0_2 l0_2.length c0_2, .int .i64 a0_3] 28 (0, 0)) u24_ hb); replace BK227 := am_ (blk_below (g := gb227) (o := .cells #[.slice A1_0 l1_0.length c1_0, .slice (some ad230) l1_1.length c1_1, .slice A1_2 l1_2.length c1_2, .int .i64 a1_3] 28 (0, 0)) u31_ hb); replace HB := am_ (below_step u11_ hb); (try clear hb)
           (try clear hb2)
           (try clear hk)
           (try clear hi)
           refine hK.out _ _ ⟨(blk_cell BK226.out 0).trans rfl, (blk_cell BK226.out 1).trans rfl, (blk_cell BK226.out 2).trans rfl, (blk_cell BK226.out 3).trans rfl, (blk_cell BK227.out 0).trans rfl, (blk_cell BK227.out 1).trans rfl, (blk_cell BK227.out 2).trans rfl, (blk_cell BK227.out 3).trans rfl, ((HB.out.cell (World.block_lt_of_cell? w _ hw229_0)).trans hw229_0), ((HB.out.cell (World.block_lt_of_cell? w _ hw229_1)).trans hw229_1), ((HB.out.cell (World.block_lt_of_cell? w _ hw229_2)).trans hw229_2), ((HB.out.cell (World.block_lt_of_cell? w _ hw230_0)).trans hw230_0), ((HB.out.cell (World.block_lt_of_cell? w _ hw230_1)).trans hw230_1), ((HB.out.cell (World.block_lt_of_cell? w _ hw230_2)).trans hw230_2), ((HB.out.cell (World.block_lt_of_cell? w _ hw231_0)).trans hw231_0), ((HB.out.cell (World.block_lt_of_cell? w _ hw231_1)).trans hw231_1), ((HB.out.cell (World.block_lt_of_cell? w _ hw231_2)).trans hw231_2), ((HB.out.cell (World.block_lt_of_cell? w _ hw232_0)).trans hw232_0), ((HB.out.cell (World.block_lt_of_cell? w _ hw232_1)).trans hw232_1), ((HB.out.cell (World.block_lt_of_cell? w _ hw232_2)).trans hw232_2)⟩ (fun hHeld => ?_); clear hK K; refine norm_ (a' := ?_) ?_ ?_; rotate_left
           ·show Act.put _ (some 71) _ = _
            simp only [Act.put, List.setIfInBounds_toArray, List.set_cons_zero, List.set_cons_succ, i64_w, i32_w]; rfl
           refine pure_ (i := 27) (N := some 72) (v := ?_) (a' := ?_) (bm_ 29 268435455) rfl rfl (any_of HT_.out u10_) (fun _ _ _ h => h) (Or.inl ⟨u32_, ?_⟩) ?_ ?_; rotate_left
           ·exact u6_
           rotate_left
           ·exact u0_
           refine pure_ (i := 28) (N := some 73) (v := ?_) (a' := ?_) (bm_ 29 536870911) rfl rfl (any_of HT_.out u10_) (fun _ _ _ h => h) (Or.inl ⟨u32_, ?_⟩) ?_ ?_; rotate_left
           ·exact u6_
           rotate_left
           ·exact u0_
           refine done_ (done_of HT_.out u10_) ?_; try go_wp2
           go_roundg k2
           case measure => have := HJ2.out; have := HK2.out; omega
           case rel => exact ⟨(wrap64 (x5_2 + 1)), u20_, H', ⟨by have := HJ2.out; have := HK2.out; omega⟩, ⟨u24_⟩, ⟨u31_⟩, ⟨u11_⟩⟩
          ·replace c28 := Bool.eq_false_iff.mpr c28; subst c28; rw [if_neg (show ¬ (false = true) by decide)] at H; obtain rfl := Option.some.inj H; have hnb33 := NB226_227.out; have hnc33 := NB227_226.out; have hcz34_0 : wr.cell? ⟨gb226, 0, none⟩ = some (.slice A0_0 l0_0.length c0_0) := (blk_cell BK226.out 0).trans rfl; have hcz34_1 : wr.cell? ⟨gb226, 1, none⟩ = some (.slice A0_1 l0_1.length c0_1) := (blk_cell BK226.out 1).trans rfl; have hcz34_2 : wr.cell? ⟨gb226, 2, none⟩ = some (.slice A0_2 l0_2.length c0_2) := (blk_cell BK226.out 2).trans rfl; have hcz34_3 : wr.cell? ⟨gb226, 3, none⟩ = some (.int .i64 a0_3) := (blk_cell BK226.out 3).trans rfl; have hfz34_0 := blk_frozen BK226.out 0; have hfz34_1 := blk_frozen BK226.out 1; have hfz34_2 := blk_frozen BK226.out 2; have hfz34_3 := blk_frozen BK226.out 3; try go_wp2
           replace BK226 := am_ (blk_drew BK226.out); replace BK227 := am_ (blk_drew BK227.out); replace HB := am_ (below_drew1 HB.out); have p229 : 0 ≤ (x5_2 : Int) := of_decide_eq_true u2_; have q229 : x5_2 < (l0_1.length : Int) := of_decide_eq_true u2_; obtain ⟨ad229, A229_2, c229_2, e229, hx229_0, hx229_1, hx229_2, hl229_2, hi229_2⟩ := at_T59 HR0_1.out x5_2 p229 q229; have hw229_2 := hx229_2; have hw229_1 := hx229_1; have hw229_0 := hx229_0; cases e229; replace hx229_0 := (HB.out.cell (World.block_lt_of_cell? w _ hx229_0)).trans hx229_0; replace hx229_1 := (HB.out.cell (World.block_lt_of_cell? w _ hx229_1)).trans hx229_1; replace hx229_2 := (HB.out.cell (World.block_lt_of_cell? w _ hx229_2)).trans hx229_2; have HR229_2 := am_ hi229_2; have HC229_2 := am_ hl229_2; clear hi229_2 hl229_2; replace p229 := eq_true p229; replace q229 := eq_true q229; have p230 : 0 ≤ (x5_2 : Int) := of_decide_eq_true u2_; have q230 : x5_2 < (l1_1.length : Int) := of_decide_eq_true u2_; obtain ⟨ad230, A230_2, c230_2, e230, hx230_0, hx230_1, hx230_2, hl230_2, hi230_2⟩ := at_T59 HR1_1.out x5_2 p230 q230; have hw230_2 := hx230_2; have hw230_1 := hx230_1; have hw230_0 := hx230_0; cases e230; replace hx230_0 := (HB.out.cell (World.block_lt_of_cell? w _ hx230_0)).trans hx230_0; replace hx230_1 := (HB.out.cell (World.block_lt_of_cell? w _ hx230_1)).trans hx230_1; replace hx230_2 := (HB.out.cell (World.block_lt_of_cell? w _ hx230_2)).trans hx230_2; have HR230_2 := am_ hi230_2; have HC230_2 := am_ hl230_2; clear hi230_2 hl230_2; replace p230 := eq_true p230; replace q230 := eq_true q230; have p231 : 0 ≤ (x5_2 : Int) := of_decide_eq_true u2_; have q231 : x5_2 < (l0_1.length : Int) := of_decide_eq_true u2_; obtain ⟨ad231, A231_2, c231_2, e231, hx231_0, hx231_1, hx231_2, hl231_2, hi231_2⟩ := at_T59 HR0_1.out x5_2 p231 q231; have hw231_2 := hx231_2; have hw231_1 := hx231_1; have hw231_0 := hx231_0; obtain rfl : ad229 = ad231 := (by injection e231); replace hx231_0 := (HB.out.cell (World.block_lt_of_cell? w _ hx231_0)).trans hx231_0; replace hx231_1 := (HB.out.cell (World.block_lt_of_cell? w _ hx231_1)).trans hx231_1; replace hx231_2 := (HB.out.cell (World.block_lt_of_cell? w _ hx231_2)).trans hx231_2; have HR231_2 := am_ hi231_2; have HC231_2 := am_ hl231_2; clear hi231_2 hl231_2; replace p231 := eq_true p231; replace q231 := eq_true q231; have ea_ := Option.some.inj (hx229_2.symm.trans hx231_2); injection ea_ with ea_ en_ ec_
           subst ea_; subst ec_; clear en_; have p232 : 0 ≤ (x5_2 : Int) := of_decide_eq_true u2_; have q232 : x5_2 < (l1_1.length : Int) := of_decide_eq_true u2_; obtain ⟨ad232, A232_2, c232_2, e232, hx232_0, hx232_1, hx232_2, hl232_2, hi232_2⟩ := at_T59 HR1_1.out x5_2 p232 q232; have hw232_2 := hx232_2; have hw232_1 := hx232_1; have hw232_0 := hx232_0; obtain rfl : ad230 = ad232 := (by injection e232); replace hx232_0 := (HB.out.cell (World.block_lt_of_cell? w _ hx232_0)).trans hx232_0; replace hx232_1 := (HB.out.cell (World.block_lt_of_cell? w _ hx232_1)).trans hx232_1; replace hx232_2 := (HB.out.cell (World.block_lt_of_cell? w _ hx232_2)).trans hx232_2; have HR232_2 := am_ hi232_2; have HC232_2 := am_ hl232_2; clear hi232_2 hl232_2; replace p232 := eq_true p232; replace q232 := eq_true q232; have ea_ := Option.some.inj (hx230_2.symm.trans hx232_2); injection ea_ with ea_ en_ ec_
           subst ea_; subst ec_; clear en_; refine start_ (n := 29) (S := fun w' => w'.cell? ⟨gb226, 0, none⟩ = some (.slice A0_0 l0_0.length c0_0) ∧ w'.cell? ⟨gb226, 1, none⟩ = some (.slice (some ad229) l0_1.length c0_1) ∧ w'.cell? ⟨gb226, 2, none⟩ = some (.slice A0_2 l0_2.length c0_2) ∧ w'.cell? ⟨gb226, 3, none⟩ = some (.int .i64 a0_3) ∧ w'.cell? ⟨gb227, 0, none⟩ = some (.slice A1_0 l1_0.length c1_0) ∧ w'.cell? ⟨gb227, 1, none⟩ = some (.slice (some ad230) l1_1.length c1_1) ∧ w'.cell? ⟨gb227, 2, none⟩ = some (.slice A1_2 l1_2.length c1_2) ∧ w'.cell? ⟨gb227, 3, none⟩ = some (.int .i64 a1_3) ∧ w'.cell? (ad229.add ((x5_2).toNat * 3)) = some (.int .i64 ((rd_T59 l0_1 x5_2).f0)) ∧ w'.cell? ⟨(ad229.add ((x5_2).toNat * 3)).block, (ad229.add ((x5_2).toNat * 3)).off + 1, none⟩ = some (.string ((rd_T59 l0_1 x5_2).f1.f0)) ∧ w'.cell? ⟨(ad229.add ((x5_2).toNat * 3)).block, (ad229.add ((x5_2).toNat * 3)).off + 2, none⟩ = some (.slice A229_2 ((rd_T59 l0_1 x5_2).f1.f1).length c229_2) ∧ w'.cell? (ad230.add ((x5_2).toNat * 3)) = some (.int .i64 ((rd_T59 l1_1 x5_2).f0)) ∧ w'.cell? ⟨(ad230.add ((x5_2).toNat * 3)).block, (ad230.add ((x5_2).toNat * 3)).off + 1, none⟩ = some (.string ((rd_T59 l1_1 x5_2).f1.f0)) ∧ w'.cell? ⟨(ad230.add ((x5_2).toNat * 3)).block, (ad230.add ((x5_2).toNat * 3)).off + 2, none⟩ = some (.slice A230_2 ((rd_T59 l1_1 x5_2).f1.f1).length c230_2) ∧ w'.cell? (ad229.add ((x5_2).toNat * 3)) = some (.int .i64 ((rd_T59 l0_1 x5_2).f0)) ∧ w'.cell? ⟨(ad229.add ((x5_2).toNat * 3)).block, (ad229.add ((x5_2).toNat * 3)).off + 1, none⟩ = some (.string ((rd_T59 l0_1 x5_2).f1.f0)) ∧ w'.cell? ⟨(ad229.add ((x5_2).toNat * 3)).block, (ad229.add ((x5_2).toNat * 3)).off + 2, none⟩ = some (.slice A229_2 ((rd_T59 l0_1 x5_2).f1.f1).length c229_2) ∧ w'.cell? (ad230.add ((x5_2).toNat * 3)) = some (.int .i64 ((rd_T59 l1_1 x5_2).f0)) ∧ w'.cell? ⟨(ad230.add ((x5_2).toNat * 3)).block, (ad230.add ((x5_2).toNat * 3)).off + 1, none⟩ = some (.string ((rd_T59 l1_1 x5_2).f1.f0)) ∧ w'.cell? ⟨(ad230.add ((x5_2).toNat * 3)).block, (ad230.add ((x5_2).toNat * 3)).off + 2, none⟩ = some (.slice A230_2 ((rd_T59 l1_1 x5_2).f1.f1).length c230_2)) (ds := []) (bm_ 29 0) u10_ rfl rfl ⟨(blk_cell BK226.out 0).trans rfl, (blk_cell BK226.out 1).trans rfl, (blk_cell BK226.out 2).trans rfl, (blk_cell BK226.out 3).trans rfl, (blk_cell BK227.out 0).trans rfl, (blk_cell BK227.out 1).trans rfl, (blk_cell BK227.out 2).trans rfl, (blk_cell BK227.out 3).trans rfl, ((HB.out.cell (World.block_lt_of_cell? w _ hw229_0)).trans hw229_0), ((HB.out.cell (World.block_lt_of_cell? w _ hw229_1)).trans hw229_1), ((HB.out.cell (World.block_lt_of_cell? w _ hw229_2)).trans hw229_2), ((HB.out.cell (World.block_lt_of_cell? w _ hw230_0)).trans hw230_0), ((HB.out.cell (World.block_lt_of_cell? w _ hw230_1)).trans hw230_1), ((HB.out.cell (World.block_lt_of_cell? w _ hw230_2)).trans hw230_2), ((HB.out.cell (World.block_lt_of_cell? w _ hw231_0)).trans hw231_0), ((HB.out.cell (World.block_lt_of_cell? w _ hw231_1)).trans hw231_1), ((HB.out.cell (World.block_lt_of_cell? w _ hw231_2)).trans hw231_2), ((HB.out.cell (World.block_lt_of_cell? w _ hw232_0)).trans hw232_0), ((HB.out.cell (World.block_lt_of_cell? w _ hw232_1)).trans hw232_1), ((HB.out.cell (World.block_lt_of_cell? w _ hw232_2)).trans hw232_2)⟩ (fun hHeld => ?_); refine with_tabW laws_sdIndex.tab6 laws_sdIndex.bits6 (fun HT_ HW_ => ?_); generalize wr.drew = w35 at BK226 BK227 HB HR229_2 HR230_2 HR231_2 HR232_2 hx229_0 hx229_1 hx229_2 hx230_0 hx230_1 hx230_2 hx231_0 hx231_1 hx231_2 hx232_0 hx232_1 hx232_2 hHeld ⊢; refine pure_ (i := 0) (N := some 45) (v := ?_) (a' := ?_) (bm_ 29 1) rfl rfl (any_of HT_.out u10_) (fun _ _ _ h => h) (Or.inl ⟨u32_, ?_⟩) ?_ ?_; rotate_left
           ·exact u6_
           rotate_left
           ·exact u0_
           refine pure_ (i := 2) (N := some 47) (v := ?_) (a' := ?_) (bm_ 29 5) rfl rfl (any_of HT_.out u10_) (fun _ _ _ h => h) (Or.inl ⟨u32_, ?_⟩) ?_ ?_; rotate_left
           ·exact u6_
           rotate_left
           ·exact u0_
           refine pure_ (i := 6) (N := some 51) (v := ?_) (a' := ?_) (bm_ 29 69) rfl rfl (any_of HT_.out u10_) (fun _ _ _ h => h) (Or.inl ⟨u32_, ?_⟩) ?_ ?_; rotate_left
           ·exact u6_
           rotate_left
           ·exact u0_
           refine pure_ (i := 8) (N := some 53) (v := ?_) (a' := ?_) (bm_ 29 325) rfl rfl (any_of HT_.out u10_) (fun _ _ _ h => h) (Or.inl ⟨u32_, ?_⟩) ?_ ?_; rotate_left
           ·exact u6_
           rotate_left
           ·exact u0_
           refine take_ (i := 1) (N := some 46) (v := ?_) (a' := ?_) (bm_ 29 327) rfl rfl (take_ofW HT_.out HW_.out u10_) (fun _ _ _ h => h) (Or.inl ⟨u32_, ?_⟩) hHeld ?_ ?_; rotate_left
           ·exact u12_
           rotate_left
           ·exact u0_
           refine pure_ (i := 3) (N := some 48) (v := ?_) (a' := ?_) (bm_ 29 335) rfl rfl (any_of HT_.out u10_) (fun _ _ _ h => h) (Or.inl ⟨u32_, ?_⟩) ?_ ?_; rotate_left
           ·exact u6_
           rotate_left
           ·exact u0_
           refine pure_ (i := 4) (N := some 49) (v := ?_) (a' := ?_) (bm_ 29 351) rfl rfl (any_of HT_.out u10_) (fun _ _ _ h => h) (Or.inl ⟨u32_, ?_⟩) ?_ ?_; rotate_left
           ·exact u6_
           rotate_left
           ·exact u0_
           refine take_ (i := 5) (N := some 50) (v := ?_) (a' := ?_) (bm_ 29 383) rfl rfl (take_ofW HT_.out HW_.out u10_) (fun _ _ _ h => h) (Or.inl ⟨u32_, ?_⟩) hHeld ?_ ?_; rotate_left
           ·exact u12_
           rotate_left
           ·exact u0_
           refine take_ (i := 7) (N := some 52) (v := ?_) (a' := ?_) (bm_ 29 511) rfl rfl (take_ofW HT_.out HW_.out u10_) (fun _ _ _ h => h) (Or.inl ⟨u32_, ?_⟩) hHeld ?_ ?_; rotate_left
           ·exact u12_
           rotate_left
           ·exact u0_
           refine pure_ (i := 9) (N := some 54) (v := ?_) (a' := ?_) (bm_ 29 1023) rfl rfl (any_of HT_.out u10_) (fun _ _ _ h => h) (Or.inl ⟨u32_, ?_⟩) ?_ ?_; rotate_left
           ·exact u6_
           rotate_left
           ·exact u0_
           refine pure_ (i := 10) (N := some 55) (v := ?_) (a' := ?_) (bm_ 29 2047) rfl rfl (any_of HT_.out u10_) (fun _ _ _ h => h) (Or.inl ⟨u32_, ?_⟩) ?_ ?_; rotate_left
           ·exact u6_
           rotate_left
           ·exact u0_
           refine take_ (i := 11) (N := some 56) (v := ?_) (a' := ?_) (bm_ 29 4095) rfl rfl (take_ofW HT_.out HW_.out u10_) (fun _ _ _ h => h) (Or.inl ⟨u32_, ?_⟩) hHeld ?_ ?_; rotate_left
           ·exact u12_
           rotate_left
           ·exact u0_
           refine pure_ (i := 12) (N := some 57) (v := ?_) (a' := ?_) (bm_ 29 8191) rfl rfl (any_of HT_.out u10_) (fun _ _ _ h => h) (Or.inl ⟨u32_, ?_⟩) ?_ ?_; rotate_left
           ·exact u6_
           rotate_left
           ·exact u0_
           refine pure_ (i := 13) (N := some 58) (v := ?_) (a' := ?_) (bm_ 29 16383) rfl rfl (any_of HT_.out u10_) (fun _ _ _ h => h) (Or.inl ⟨u32_, ?_⟩) ?_ ?_; rotate_left
           ·exact u6_
           rotate_left
           ·exact u0_
           refine pure_ (i := 14) (N := some 59) (v := ?_) (a' := ?_) (bm_ 29 32767) rfl rfl (any_of HT_.out u10_) (fun _ _ _ h => h) (Or.inl ⟨u32_, ?_⟩) ?_ ?_; rotate_left
           ·exact u6_
           rotate_left
           ·exact u0_
           refine pure_ (i := 16) (N := some 61) (v := ?_) (a' := ?_) (bm_ 29 98303) rfl rfl (any_of HT_.out u10_) (fun _ _ _ h => h) (Or.inl ⟨u32_, ?_⟩) ?_ ?_; rotate_left
           ·exact u6_
           rotate_left
           ·exact u0_
           refine pure_ (i := 20) (N := some 65) (v := ?_) (a' := ?_) (bm_ 29 1146879) rfl rfl (any_of HT_.out u10_) (fun _ _ _ h => h) (Or.inl ⟨u32_, ?_⟩) ?_ ?_; rotate_left
           ·exact u6_
           rotate_left
           ·exact u0_
           refine pure_ (i := 22) (N := some 67) (v := ?_) (a' := ?_) (bm_ 29 5341183) rfl rfl (any_of HT_.out u10_) (fun _ _ _ h => h) (Or.inl ⟨u32_, ?_⟩) ?_ ?_; rotate_left
           ·exact u6_
           rotate_left
           ·exact u0_
           refine take_ (i := 15) (N := some 60) (v := ?_) (a' := ?_) (bm_ 29 5373951) rfl rfl (take_ofW HT_.out HW_.out u10_) (fun _ _ _ h => h) (Or.inl ⟨u32_, ?_⟩) hHeld ?_ ?_; rotate_left
           ·exact u12_
           rotate_left
           ·exact u0_
           refine pure_ (i := 17) (N := some 62) (v := ?_) (a' := ?_) (bm_ 29 5505023) rfl rfl (any_of HT_.out u10_) (fun _ _ _ h => h) (Or.inl ⟨u32_, ?_⟩) ?_ ?_; rotate_left
           ·exact u6_
           rotate_left
           ·exact u0_
           refine pure_ (i := 18) (N := some 63) (v := ?_) (a' := ?_) (bm_ 29 5767167) rfl rfl (any_of HT_.out u10_) (fun _ _ _ h => h) (Or.inl ⟨u32_, ?_⟩) ?_ ?_; rotate_left
           ·exact u6_
           rotate_left
           ·exact u0_
           refine take_ (i := 19) (N := some 64) (v := ?_) (a' := ?_) (bm_ 29 6291455) rfl rfl (take_ofW HT_.out HW_.out u10_) (fun _ _ _ h => h) (Or.inl ⟨u32_, ?_⟩) hHeld ?_ ?_; rotate_left
           ·exact u12_
           rotate_left
           ·exact u0_
           refine take_ (i := 21) (N := some 66) (v := ?_) (a' := ?_) (bm_ 29 8388607) rfl rfl (take_ofW HT_.out HW_.out u10_) (fun _ _ _ h => h) (Or.inl ⟨u32_, ?_⟩) hHeld ?_ ?_; rotate_left
           ·exact u12_
           rotate_left
           ·exact u0_
           refine pure_ (i := 23) (N := some 68) (v := ?_) (a' := ?_) (bm_ 29 16777215) rfl rfl (any_of HT_.out u10_) (fun _ _ _ h => h) (Or.inl ⟨u32_, ?_⟩) ?_ ?_; rotate_left
           ·exact u6_
           rotate_left
           ·exact u0_
           refine pure_ (i := 24) (N := some 69) (v := ?_) (a' := ?_) (bm_ 29 33554431) rfl rfl (any_of HT_.out u10_) (fun _ _ _ h => h) (Or.inl ⟨u32_, ?_⟩) ?_ ?_; rotate_left
           ·exact u6_
           rotate_left
           ·exact u0_
           refine take_ (i := 25) (N := some 70) (v := ?_) (a' := ?_) (bm_ 29 67108863) rfl rfl (take_ofW HT_.out HW_.out u10_) (fun _ _ _ h => h) (Or.inl ⟨u32_, ?_⟩) hHeld ?_ ?_; rotate_left
           ·exact u12_
           rotate_left
           ·exact u0_
           refine one_ (i := 26) (N := some 71) (bm_ 29 134217727) rfl rfl (one_of HT_.out u10_) u44_ (fun K hK => ?_); refine goes_ Tryz.func28 u10_ rfl #[.agg #[.string ((rd_T59 l0_1 x5_2).f1.f0), .slice A229_2 ((rd_T59 l0_1 x5_2).f1.f1).length c229_2], .agg #[.string ((rd_T59 l1_1 x5_2).f1.f0), .slice A230_2 ((rd_T59 l1_1 x5_2).f1.f1).length c230_2]] u32_ rfl rfl u3_ ?_; with_reducible refine (laws_sdDoc.calls k2 ((rd_T59 l0_1 x5_2).f1.f0) _ _ ((rd_T59 l0_1 x5_2).f1.f1) ((rd_T59 l1_1 x5_2).f1.f0) _ _ ((rd_T59 l1_1 x5_2).f1.f1) false _ ?side1 ?side2 ?side3 ?side4 A27.out).mono ?_
           (case side1 => exact u74_)
           (case side2 => exact HC231_2.out)
           (case side3 => exact u75_)
           (case side4 => exact HC232_2.out)
           rintro e w36 ⟨rfl, hb⟩; refine ⟨_, rfl, ?_⟩; replace BK226 := am_ (blk_below (g := gb226) (o := .cells #[.slice A0_0 l0_0.length c0_0, .slice (some ad229) l0_1.length c0_1, .slice A0_2 l0_2.length c0_2, .int .i64 a0_3] 28 (0, 0)) u24_ hb); replace BK227 := am_ (blk_below (g := gb227) (o := .cells #[.slice A1_0 l1_0.length c1_0, .slice (some ad230) l1_1.length c1_1, .slice A1_2 l1_2.length c1_2, .int .i64 a1_3] 28 (0, 0)) u31_ hb); replace HB := am_ (below_step u11_ hb); (try clear hb)
           (try clear hb2)
           (try clear hk)
           (try clear hi)
           refine hK.out _ _ ⟨(blk_cell BK226.out 0).trans rfl, (blk_cell BK226.out 1).trans rfl, (blk_cell BK226.out 2).trans rfl, (blk_cell BK226.out 3).trans rfl, (blk_cell BK227.out 0).trans rfl, (blk_cell BK227.out 1).trans rfl, (blk_cell BK227.out 2).trans rfl, (blk_cell BK227.out 3).trans rfl, ((HB.out.cell (World.block_lt_of_cell? w _ hw229_0)).trans hw229_0), ((HB.out.cell (World.block_lt_of_cell? w _ hw229_1)).trans hw229_1), ((HB.out.cell (World.block_lt_of_cell? w _ hw229_2)).trans hw229_2), ((HB.out.cell (World.block_lt_of_cell? w _ hw230_0)).trans hw230_0), ((HB.out.cell (World.block_lt_of_cell? w _ hw230_1)).trans hw230_1), ((HB.out.cell (World.block_lt_of_cell? w _ hw230_2)).trans hw230_2), ((HB.out.cell (World.block_lt_of_cell? w _ hw231_0)).trans hw231_0), ((HB.out.cell (World.block_lt_of_cell? w _ hw231_1)).trans hw231_1), ((HB.out.cell (World.block_lt_of_cell? w _ hw231_2)).trans hw231_2), ((HB.out.cell (World.block_lt_of_cell? w _ hw232_0)).trans hw232_0), ((HB.out.cell (World.block_lt_of_cell? w _ hw232_1)).trans hw232_1), ((HB.out.cell (World.block_lt_of_cell? w _ hw232_2)).trans hw232_2)⟩ (fun hHeld => ?_); clear hK K; refine norm_ (a' := ?_) ?_ ?_; rotate_left
           ·show Act.put _ (some 71) _ = _
            simp only [Act.put, List.setIfInBounds_toArray, List.set_cons_zero, List.set_cons_succ, i64_w, i32_w]; rfl
           refine pure_ (i := 27) (N := some 72) (v := ?_) (a' := ?_) (bm_ 29 268435455) rfl rfl (any_of HT_.out u10_) (fun _ _ _ h => h) (Or.inl ⟨u32_, ?_⟩) ?_ ?_; rotate_left
           ·exact u6_
           rotate_left
           ·exact u0_
           refine pure_ (i := 28) (N := some 73) (v := ?_) (a' := ?_) (bm_ 29 536870911) rfl rfl (any_of HT_.out u10_) (fun _ _ _ h => h) (Or.inl ⟨u32_, ?_⟩) ?_ ?_; rotate_left
           ·exact u6_
           rotate_left
           ·exact u0_
           refine done_ (done_of HT_.out u10_) ?_; try go_wp2
           go_ret
           exact ⟨u8_, u11_⟩
         ·rw [if_neg c26] at H; have c26b0 : (((rd_T59 l0_1 x5_2).f0) == ((rd_T59 l1_1 x5_2).f0)) = false := beq_eq_false_iff_ne.mpr c26; have c26b1 : (((rd_T59 l0_1 x5_2).f0) != ((rd_T59 l1_1 x5_2).f0)) = true := bne_iff_ne.mpr c26; obtain rfl := Option.some.inj H; have hnb37 := NB226_227.out; have hnc37 := NB227_226.out; have hcz38_0 : wr.cell? ⟨gb226, 0, none⟩ = some (.slice A0_0 l0_0.length c0_0) := (blk_cell BK226.out 0).trans rfl; have hcz38_1 : wr.cell? ⟨gb226, 1, none⟩ = some (.slice A0_1 l0_1.length c0_1) := (blk_cell BK226.out 1).trans rfl; have hcz38_2 : wr.cell? ⟨gb226, 2, none⟩ = some (.slice A0_2 l0_2.length c0_2) := (blk_cell BK226.out 2).trans rfl; have hcz38_3 : wr.cell? ⟨gb226, 3, none⟩ = some (.int .i64 a0_3) := (blk_cell BK226.out 3).trans rfl; have hfz38_0 := blk_frozen BK226.out 0; have hfz38_1 := blk_frozen BK226.out 1; have hfz38_2 := blk_frozen BK226.out 2; have hfz38_3 := blk_frozen BK226.out 3; try go_wp2
          replace BK226 := am_ (blk_drew BK226.out); replace BK227 := am_ (blk_drew BK227.out); replace HB := am_ (below_drew1 HB.out); have p229 : 0 ≤ (x5_2 : Int) := of_decide_eq_true u2_; have q229 : x5_2 < (l0_1.length : Int) := of_decide_eq_true u2_; obtain ⟨ad229, A229_2, c229_2, e229, hx229_0, hx229_1, hx229_2, hl229_2, hi229_2⟩ := at_T59 HR0_1.out x5_2 p229 q229; have hw229_2 := hx229_2; have hw229_1 := hx229_1; have hw229_0 := hx229_0; cases e229; replace hx229_0 := (HB.out.cell (World.block_lt_of_cell? w _ hx229_0)).trans hx229_0; replace hx229_1 := (HB.out.cell (World.block_lt_of_cell? w _ hx229_1)).trans hx229_1; replace hx229_2 := (HB.out.cell (World.block_lt_of_cell? w _ hx229_2)).trans hx229_2; have HR229_2 := am_ hi229_2; have HC229_2 := am_ hl229_2; clear hi229_2 hl229_2; replace p229 := eq_true p229; replace q229 := eq_true q229; have p230 : 0 ≤ (x5_2 : Int) := of_decide_eq_true u2_; have q230 : x5_2 < (l1_1.length : Int) := of_decide_eq_true u2_; obtain ⟨ad230, A230_2, c230_2, e230, hx230_0, hx230_1, hx230_2, hl230_2, hi230_2⟩ := at_T59 HR1_1.out x5_2 p230 q230; have hw230_2 := hx230_2; have hw230_1 := hx230_1; have hw230_0 := hx230_0; cases e230; replace hx230_0 := (HB.out.cell (World.block_lt_of_cell? w _ hx230_0)).trans hx230_0; replace hx230_1 := (HB.out.cell (World.block_lt_of_cell? w _ hx230_1)).trans hx230_1; replace hx230_2 := (HB.out.cell (World.block_lt_of_cell? w _ hx230_2)).trans hx230_2; have HR230_2 := am_ hi230_2; have HC230_2 := am_ hl230_2; clear hi230_2 hl230_2; replace p230 := eq_true p230; replace q230 := eq_true q230; refine start_ (n := 29) (S := fun w' => w'.cell? ⟨gb226, 0, none⟩ = some (.slice A0_0 l0_0.length c0_0) ∧ w'.cell? ⟨gb226, 1, none⟩ = some (.slice (some ad229) l0_1.length c0_1) ∧ w'.cell? ⟨gb226, 2, none⟩ = some (.slice A0_2 l0_2.length c0_2) ∧ w'.cell? ⟨gb226, 3, none⟩ = some (.int .i64 a0_3) ∧ w'.cell? ⟨gb227, 0, none⟩ = some (.slice A1_0 l1_0.length c1_0) ∧ w'.cell? ⟨gb227, 1, none⟩ = some (.slice (some ad230) l1_1.length c1_1) ∧ w'.cell? ⟨gb227, 2, none⟩ = some (.slice A1_2 l1_2.length c1_2) ∧ w'.cell? ⟨gb227, 3, none⟩ = some (.int .i64 a1_3) ∧ w'.cell? (ad229.add ((x5_2).toNat * 3)) = some (.int .i64 ((rd_T59 l0_1 x5_2).f0)) ∧ w'.cell? ⟨(ad229.add ((x5_2).toNat * 3)).block, (ad229.add ((x5_2).toNat * 3)).off + 1, none⟩ = some (.string ((rd_T59 l0_1 x5_2).f1.f0)) ∧ w'.cell? ⟨(ad229.add ((x5_2).toNat * 3)).block, (ad229.add ((x5_2).toNat * 3)).off + 2, none⟩ = some (.slice A229_2 ((rd_T59 l0_1 x5_2).f1.f1).length c229_2) ∧ w'.cell? (ad230.add ((x5_2).toNat * 3)) = some (.int .i64 ((rd_T59 l1_1 x5_2).f0)) ∧ w'.cell? ⟨(ad230.add ((x5_2).toNat * 3)).block, (ad230.add ((x5_2).toNat * 3)).off + 1, none⟩ = some (.string ((rd_T59 l1_1 x5_2).f1.f0)) ∧ w'.cell? ⟨(ad230.add ((x5_2).toNat * 3)).block, (ad230.add ((x5_2).toNat * 3)).off + 2, none⟩ = some (.slice A230_2 ((rd_T59 l1_1 x5_2).f1.f1).length c230_2)) (ds := []) (bm_ 29 0) u10_ rfl rfl ⟨(blk_cell BK226.out 0).trans rfl, (blk_cell BK226.out 1).trans rfl, (blk_cell BK226.out 2).trans rfl, (blk_cell BK226.out 3).trans rfl, (blk_cell BK227.out 0).trans rfl, (blk_cell BK227.out 1).trans rfl, (blk_cell BK227.out 2).trans rfl, (blk_cell BK227.out 3).trans rfl, ((HB.out.cell (World.block_lt_of_cell? w _ hw229_0)).trans hw229_0), ((HB.out.cell (World.block_lt_of_cell? w _ hw229_1)).trans hw229_1), ((HB.out.cell (World.block_lt_of_cell? w _ hw229_2)).trans hw229_2), ((HB.out.cell (World.block_lt_of_cell? w _ hw230_0)).trans hw230_0), ((HB.out.cell (World.block_lt_of_cell? w _ hw230_1)).trans hw230_1), ((HB.out.cell (World.block_lt_of_cell? w _ hw230_2)).trans hw230_2)⟩ (fun hHeld => ?_); refine with_tabW laws_sdIndex.tab6 laws_sdIndex.bits6 (fun HT_ HW_ => ?_); generalize wr.drew = w39 at BK226 BK227 HB HR229_2 HR230_2 hx229_0 hx229_1 hx229_2 hx230_0 hx230_1 hx230_2 hHeld ⊢; refine pure_ (i := 0) (N := some 45) (v := ?_) (a' := ?_) (bm_ 29 1) rfl rfl (any_of HT_.out u10_) (fun _ _ _ h => h) (Or.inl ⟨u32_, ?_⟩) ?_ ?_; rotate_left
          ·exact u6_
          rotate_left
          ·exact u0_
          refine pure_ (i := 2) (N := some 47) (v := ?_) (a' := ?_) (bm_ 29 5) rfl rfl (any_of HT_.out u10_) (fun _ _ _ h => h) (Or.inl ⟨u32_, ?_⟩) ?_ ?_; rotate_left
          ·exact u6_
          rotate_left
          ·exact u0_
          refine pure_ (i := 6) (N := some 51) (v := ?_) (a' := ?_) (bm_ 29 69) rfl rfl (any_of HT_.out u10_) (fun _ _ _ h => h) (Or.inl ⟨u32_, ?_⟩) ?_ ?_; rotate_left
          ·exact u6_
          rotate_left
          ·exact u0_
          refine pure_ (i := 8) (N := some 53) (v := ?_) (a' := ?_) (bm_ 29 325) rfl rfl (any_of HT_.out u10_) (fun _ _ _ h => h) (Or.inl ⟨u32_, ?_⟩) ?_ ?_; rotate_left
          ·exact u6_
          rotate_left
          ·exact u0_
          refine take_ (i := 1) (N := some 46) (v := ?_) (a' := ?_) (bm_ 29 327) rfl rfl (take_ofW HT_.out HW_.out u10_) (fun _ _ _ h => h) (Or.inl ⟨u32_, ?_⟩) hHeld ?_ ?_; rotate_left
          ·exact u43_
          rotate_left
          ·exact u0_
          refine pure_ (i := 3) (N := some 48) (v := ?_) (a' := ?_) (bm_ 29 335) rfl rfl (any_of HT_.out u10_) (fun _ _ _ h => h) (Or.inl ⟨u32_, ?_⟩) ?_ ?_; rotate_left
          ·exact u6_
          rotate_left
          ·exact u0_
          refine pure_ (i := 4) (N := some 49) (v := ?_) (a' := ?_) (bm_ 29 351) rfl rfl (any_of HT_.out u10_) (fun _ _ _ h => h) (Or.inl ⟨u32_, ?_⟩) ?_ ?_; rotate_left
          ·exact u6_
          rotate_left
          ·exact u0_
          refine take_ (i := 5) (N := some 50) (v := ?_) (a' := ?_) (bm_ 29 383) rfl rfl (take_ofW HT_.out HW_.out u10_) (fun _ _ _ h => h) (Or.inl ⟨u32_, ?_⟩) hHeld ?_ ?_; rotate_left
          ·exact u43_
          rotate_left
          ·exact u0_
          refine take_ (i := 7) (N := some 52) (v := ?_) (a' := ?_) (bm_ 29 511) rfl rfl (take_ofW HT_.out HW_.out u10_) (fun _ _ _ h => h) (Or.inl ⟨u32_, ?_⟩) hHeld ?_ ?_; rotate_left
          ·exact u43_
          rotate_left
          ·exact u0_
          refine pure_ (i := 9) (N := some 54) (v := ?_) (a' := ?_) (bm_ 29 1023) rfl rfl (any_of HT_.out u10_) (fun _ _ _ h => h) (Or.inl ⟨u32_, ?_⟩) ?_ ?_; rotate_left
          ·exact u6_
          rotate_left
          ·exact u0_
          refine pure_ (i := 10) (N := some 55) (v := ?_) (a' := ?_) (bm_ 29 2047) rfl rfl (any_of HT_.out u10_) (fun _ _ _ h => h) (Or.inl ⟨u32_, ?_⟩) ?_ ?_; rotate_left
          ·exact u6_
          rotate_left
          ·exact u0_
          refine take_ (i := 11) (N := some 56) (v := ?_) (a' := ?_) (bm_ 29 4095) rfl rfl (take_ofW HT_.out HW_.out u10_) (fun _ _ _ h => h) (Or.inl ⟨u32_, ?_⟩) hHeld ?_ ?_; rotate_left
          ·exact u43_
          rotate_left
          ·exact u0_
          refine pure_ (i := 12) (N := some 57) (v := ?_) (a' := ?_) (bm_ 29 8191) rfl rfl (any_of HT_.out u10_) (fun _ _ _ h => h) (Or.inl ⟨u32_, ?_⟩) ?_ ?_; rotate_left
          ·exact u6_
          rotate_left
          ·exact u0_
          refine pure_ (i := 13) (N := some 58) (v := ?_) (a' := ?_) (bm_ 29 16383) rfl rfl (any_of HT_.out u10_) (fun _ _ _ h => h) (Or.inl ⟨u32_, ?_⟩) ?_ ?_; rotate_left
          ·exact u6_
          rotate_left
          ·exact u0_
          refine pure_ (i := 14) (N := some 59) (v := undef) (a' := ?_) (bm_ 29 32767) rfl rfl (any_of HT_.out u10_) (fun _ _ _ h => h) (Or.inr ⟨u32_, rfl⟩) ?_ ?_; rotate_left
          ·exact u0_
          refine pure_ (i := 15) (N := some 60) (v := undef) (a' := ?_) (bm_ 29 65535) rfl rfl (any_of HT_.out u10_) (fun _ _ _ h => h) (Or.inr ⟨u32_, rfl⟩) ?_ ?_; rotate_left
          ·exact u0_
          refine pure_ (i := 16) (N := some 61) (v := undef) (a' := ?_) (bm_ 29 131071) rfl rfl (any_of HT_.out u10_) (fun _ _ _ h => h) (Or.inr ⟨u32_, rfl⟩) ?_ ?_; rotate_left
          ·exact u0_
          refine pure_ (i := 17) (N := some 62) (v := undef) (a' := ?_) (bm_ 29 262143) rfl rfl (any_of HT_.out u10_) (fun _ _ _ h => h) (Or.inr ⟨u32_, rfl⟩) ?_ ?_; rotate_left
          ·exact u0_
          refine pure_ (i := 18) (N := some 63) (v := undef) (a' := ?_) (bm_ 29 524287) rfl rfl (any_of HT_.out u10_) (fun _ _ _ h => h) (Or.inr ⟨u32_, rfl⟩) ?_ ?_; rotate_left
          ·exact u0_
          refine pure_ (i := 19) (N := some 64) (v := undef) (a' := ?_) (bm_ 29 1048575) rfl rfl (any_of HT_.out u10_) (fun _ _ _ h => h) (Or.inr ⟨u32_, rfl⟩) ?_ ?_; rotate_left
          ·exact u0_
          refine pure_ (i := 20) (N := some 65) (v := undef) (a' := ?_) (bm_ 29 2097151) rfl rfl (any_of HT_.out u10_) (fun _ _ _ h => h) (Or.inr ⟨u32_, rfl⟩) ?_ ?_; rotate_left
          ·exact u0_
          refine pure_ (i := 21) (N := some 66) (v := undef) (a' := ?_) (bm_ 29 4194303) rfl rfl (any_of HT_.out u10_) (fun _ _ _ h => h) (Or.inr ⟨u32_, rfl⟩) ?_ ?_; rotate_left
          ·exact u0_
          refine pure_ (i := 22) (N := some 67) (v := undef) (a' := ?_) (bm_ 29 8388607) rfl rfl (any_of HT_.out u10_) (fun _ _ _ h => h) (Or.inr ⟨u32_, rfl⟩) ?_ ?_; rotate_left
          ·exact u0_
          refine pure_ (i := 23) (N := some 68) (v := undef) (a' := ?_) (bm_ 29 16777215) rfl rfl (any_of HT_.out u10_) (fun _ _ _ h => h) (Or.inr ⟨u32_, rfl⟩) ?_ ?_; rotate_left
          ·exact u0_
          refine pure_ (i := 24) (N := some 69) (v := undef) (a' := ?_) (bm_ 29 33554431) rfl rfl (any_of HT_.out u10_) (fun _ _ _ h => h) (Or.inr ⟨u32_, rfl⟩) ?_ ?_; rotate_left
          ·exact u0_
          refine pure_ (i := 25) (N := some 70) (v := undef) (a' := ?_) (bm_ 29 67108863) rfl rfl (any_of HT_.out u10_) (fun _ _ _ h => h) (Or.inr ⟨u32_, rfl⟩) ?_ ?_; rotate_left
          ·exact u0_
          refine pure_ (i := 26) (N := some 71) (v := undef) (a' := ?_) (bm_ 29 134217727) rfl rfl (any_of HT_.out u10_) (fun _ _ _ h => h) (Or.inr ⟨u32_, rfl⟩) ?_ ?_; rotate_left
          ·exact u0_
          refine pure_ (i := 27) (N := some 72) (v := undef) (a' := ?_) (bm_ 29 268435455) rfl rfl (any_of HT_.out u10_) (fun _ _ _ h => h) (Or.inr ⟨u32_, rfl⟩) ?_ ?_; rotate_left
          ·exact u0_
          refine pure_ (i := 28) (N := some 73) (v := ?_) (a' := ?_) (bm_ 29 536870911) rfl rfl (any_of HT_.out u10_) (fun _ _ _ h => h) (Or.inl ⟨u32_, ?_⟩) ?_ ?_; rotate_left
          ·exact u6_
          rotate_left
          ·exact u0_
          refine done_ (done_of HT_.out u10_) ?_; try go_wp2
          go_ret
          exact ⟨u8_, u11_⟩
        ·rw [if_neg c25] at H; exact absurd H u65_
       ·rw [if_neg c24] at H; exact absurd H u65_
      ·rw [if_neg c23] at H; have c23b0 : decide (x5_2 < (l0_1.length : Int)) = false := decide_eq_false c23; clear c23; have H' := am_ H; clear H; have hnb40 := NB226_227.out; have hnc40 := NB227_226.out; have hcz41_0 : wr.cell? ⟨gb226, 0, none⟩ = some (.slice A0_0 l0_0.length c0_0) := (blk_cell BK226.out 0).trans rfl; have hcz41_1 : wr.cell? ⟨gb226, 1, none⟩ = some (.slice A0_1 l0_1.length c0_1) := (blk_cell BK226.out 1).trans rfl; have hcz41_2 : wr.cell? ⟨gb226, 2, none⟩ = some (.slice A0_2 l0_2.length c0_2) := (blk_cell BK226.out 2).trans rfl; have hcz41_3 : wr.cell? ⟨gb226, 3, none⟩ = some (.int .i64 a0_3) := (blk_cell BK226.out 3).trans rfl; have hfz41_0 := blk_frozen BK226.out 0; have hfz41_1 := blk_frozen BK226.out 1; have hfz41_2 := blk_frozen BK226.out 2; have hfz41_3 := blk_frozen BK226.out 3; go_wp2; go_loopg [6] k2 (fun kq v6 w' => ∃ (x6_3 : Int), v6 = .int .i64 x6_3 ∧ Aside0 (laws_sdIndex.l1 kq x6_3 l0_0 l0_1 l0_2 a0_3 l1_0 l1_1 l1_2 a1_3 = some r) ∧ Aside0 (kq ≤ k2) ∧ Aside0 (w'.heap[gb226]? = some (.cells #[(.slice A0_0 l0_0.length c0_0), (.slice A0_1 l0_1.length c0_1), (.slice A0_2 l0_2.length c0_2), .int .i64 a0_3] 28 (0, 0))) ∧ Aside0 (w'.heap[gb227]? = some (.cells #[(.slice A1_0 l1_0.length c1_0), (.slice A1_1 l1_1.length c1_1), (.slice A1_2 l1_2.length c1_2), .int .i64 a1_3] 28 (0, 0))) ∧ Aside0 (Below w.heap.size w w'))
       case atStart => exact ⟨(0), u20_, H', ⟨Nat.le_refl _⟩, ⟨u24_⟩, ⟨u31_⟩, ⟨u11_⟩⟩
       case round =>
        clear H'; try clear c1
        try clear c2
        try clear p2
        try clear q2
        try clear hx2
        try clear c3
        try clear c4
        try clear c22
        try clear p22
        try clear q22
        try clear hx22
        try clear c23
        try clear c23b0
        try clear p23
        try clear q23
        try clear hx23
        try clear c24
        try clear c25
        try clear c26
        try clear c26b0
        try clear c26b1
        try clear c28
        try clear c37
        try clear c40
        try clear hcz38_0
        try clear hcz38_1
        try clear hcz38_2
        try clear hcz38_3
        try clear hcz41_0
        try clear hcz41_1
        try clear hcz41_2
        try clear hcz41_3
        try clear hfz38_0
        try clear hfz38_1
        try clear hfz38_2
        try clear hfz38_3
        try clear hfz41_0
        try clear hfz41_1
        try clear hfz41_2
        try clear hfz41_3
        try clear hx229_0
        try clear hx229_1
        try clear hx229_2
        try clear hx230_0
        try clear hx230_1
        try clear hx230_2
        try clear hx231_0
        try clear hx231_1
        try clear hx231_2
        try clear hx232_0
        try clear hx232_1
        try clear hx232_2
        try clear p229
        try clear p230
        try clear p231
        try clear p232
        try clear q229
        try clear q230
        try clear q231
        try clear q232
        obtain ⟨x6_3, rfl, HA, HK3, BK226, BK227, HB⟩ := hrel; cases gk with
        | zero => exact absurd HA.out (by simp [laws_sdIndex.l1])
        | succ k3 =>
         have H := HA.out; clear HA; simp only [laws_sdIndex.l1] at H; by_cases c42 : x6_3 < (l0_2.length : Int)
         ·rw [if_pos c42] at H; have c42b0 : decide (x6_3 < (l0_2.length : Int)) = true := decide_eq_true c42; clear c42; by_cases c43 : 0 ≤ x6_3
          ·rw [if_pos c43] at H; have c43b0 : decide (0 ≤ x6_3) = true := decide_eq_true c43; clear c43; by_cases c44 : x6_3 < (l1_2.length : Int)
           ·rw [if_pos c44] at H; have c44b0 : decide (x6_3 < (l1_2.length : Int)) = true := decide_eq_true c44; clear c44; by_cases c45 : ((rd_T62 l0_2 x6_3).f0).toList = ((rd_T62 l1_2 x6_3).f0).toList
            ·rw [if_pos c45] at H; have c45b0 : (((rd_T62 l0_2 x6_3).f0).toList == ((rd_T62 l1_2 x6_3).f0).toList) = true := beq_iff_eq.mpr c45; have c45b1 : (((rd_T62 l0_2 x6_3).f0).toList != ((rd_T62 l1_2 x6_3).f0).toList) = false := bne_eq_false_iff_eq.mpr c45; clear c45; by_cases c46 : ((rd_T62 l0_2 x6_3).f1).toList = ((rd_T62 l1_2 x6_3).f1).toList
             ·rw [if_pos c46] at H; have c46b0 : (((rd_T62 l0_2 x6_3).f1).toList == ((rd_T62 l1_2 x6_3).f1).toList) = true := beq_iff_eq.mpr c46; have c46b1 : (((rd_T62 l0_2 x6_3).f1).toList != ((rd_T62 l1_2 x6_3).f1).toList) = false := bne_eq_false_iff_eq.mpr c46; clear c46; replace H := Option.bind_eq_some_iff.mp H; obtain ⟨t240, A470, H⟩ := H; replace H : (if t240 = true then (laws_sdIndex.l1 k3 (wrap64 (x6_3 + 1)) l0_0 l0_1 l0_2 a0_3 l1_0 l1_1 l1_2 a1_3) else (some false)) = some r := H; have A47 := am_ A470; clear A470; by_cases c48 : t240 = true
              ·subst c48; rw [if_pos rfl] at H; have H' := am_ H; clear H; have hnb49 := NB226_227.out; have hnc49 := NB227_226.out; have hcz50_0 : wr.cell? ⟨gb226, 0, none⟩ = some (.slice A0_0 l0_0.length c0_0) := (blk_cell BK226.out 0).trans rfl; have hcz50_1 : wr.cell? ⟨gb226, 1, none⟩ = some (.slice A0_1 l0_1.length c0_1) := (blk_cell BK226.out 1).trans rfl; have hcz50_2 : wr.cell? ⟨gb226, 2, none⟩ = some (.slice A0_2 l0_2.length c0_2) := (blk_cell BK226.out 2).trans rfl; have hcz50_3 : wr.cell? ⟨gb226, 3, none⟩ = some (.int .i64 a0_3) := (blk_cell BK226.out 3).trans rfl; have hfz50_0 := blk_frozen BK226.out 0; have hfz50_1 := blk_frozen BK226.out 1; have hfz50_2 := blk_frozen BK226.out 2; have hfz50_3 := blk_frozen BK226.out 3; try go_wp2
               replace BK226 := am_ (blk_drew BK226.out); replace BK227 := am_ (blk_drew BK227.out); replace HB := am_ (below_drew1 HB.out); have p234 : 0 ≤ (x6_3 : Int) := of_decide_eq_true u2_; have q234 : x6_3 < (l0_2.length : Int) := of_decide_eq_true u2_; obtain ⟨ad234, A234_2, c234_2, e234, hx234_0, hx234_1, hx234_2, hl234_2, hi234_2⟩ := at_T62 HR0_2.out x6_3 p234 q234; have hw234_2 := hx234_2; have hw234_1 := hx234_1; have hw234_0 := hx234_0; cases e234; replace hx234_0 := (HB.out.cell (World.block_lt_of_cell? w _ hx234_0)).trans hx234_0; replace hx234_1 := (HB.out.cell (World.block_lt_of_cell? w _ hx234_1)).trans hx234_1; replace hx234_2 := (HB.out.cell (World.block_lt_of_cell? w _ hx234_2)).trans hx234_2; have HR234_2 := am_ hi234_2; have HC234_2 := am_ hl234_2; clear hi234_2 hl234_2; replace p234 := eq_true p234; replace q234 := eq_true q234; have p235 : 0 ≤ (x6_3 : Int) := of_decide_eq_true u2_; have q235 : x6_3 < (l1_2.length : Int) := of_decide_eq_true u2_; obtain ⟨ad235, A235_2, c235_2, e235, hx235_0, hx235_1, hx235_2, hl235_2, hi235_2⟩ := at_T62 HR1_2.out x6_3 p235 q235; have hw235_2 := hx235_2; have hw235_1 := hx235_1; have hw235_0 := hx235_0; cases e235; replace hx235_0 := (HB.out.cell (World.block_lt_of_cell? w _ hx235_0)).trans hx235_0; replace hx235_1 := (HB.out.cell (World.block_lt_of_cell? w _ hx235_1)).trans hx235_1; replace hx235_2 := (HB.out.cell (World.block_lt_of_cell? w _ hx235_2)).trans hx235_2; have HR235_2 := am_ hi235_2; have HC235_2 := am_ hl235_2; clear hi235_2 hl235_2; replace p235 := eq_true p235; replace q235 := eq_true q235; have p236 : 0 ≤ (x6_3 : Int) := of_decide_eq_true u2_; have q236 : x6_3 < (l0_2.length : Int) := of_decide_eq_true u2_; obtain ⟨ad236, A236_2, c236_2, e236, hx236_0, hx236_1, hx236_2, hl236_2, hi236_2⟩ := at_T62 HR0_2.out x6_3 p236 q236; have hw236_2 := hx236_2; have hw236_1 := hx236_1; have hw236_0 := hx236_0; obtain rfl : ad234 = ad236 := (by injection e236); replace hx236_0 := (HB.out.cell (World.block_lt_of_cell? w _ hx236_0)).trans hx236_0; replace hx236_1 := (HB.out.cell (World.block_lt_of_cell? w _ hx236_1)).trans hx236_1; replace hx236_2 := (HB.out.cell (World.block_lt_of_cell? w _ hx236_2)).trans hx236_2; have HR236_2 := am_ hi236_2; have HC236_2 := am_ hl236_2; clear hi236_2 hl236_2; replace p236 := eq_true p236; replace q236 := eq_true q236; have ea_ := Option.some.inj (hx234_2.symm.trans hx236_2); injection ea_ with ea_ en_ ec_
               subst ea_; subst ec_; clear en_; have p237 : 0 ≤ (x6_3 : Int) := of_decide_eq_true u2_; have q237 : x6_3 < (l1_2.length : Int) := of_decide_eq_true u2_; obtain ⟨ad237, A237_2, c237_2, e237, hx237_0, hx237_1, hx237_2, hl237_2, hi237_2⟩ := at_T62 HR1_2.out x6_3 p237 q237; have hw237_2 := hx237_2; have hw237_1 := hx237_1; have hw237_0 := hx237_0; obtain rfl : ad235 = ad237 := (by injection e237); replace hx237_0 := (HB.out.cell (World.block_lt_of_cell? w _ hx237_0)).trans hx237_0; replace hx237_1 := (HB.out.cell (World.block_lt_of_cell? w _ hx237_1)).trans hx237_1; replace hx237_2 := (HB.out.cell (World.block_lt_of_cell? w _ hx237_2)).trans hx237_2; have HR237_2 := am_ hi237_2; have HC237_2 := am_ hl237_2; clear hi237_2 hl237_2; replace p237 := eq_true p237; replace q237 := eq_true q237; have ea_ := Option.some.inj (hx235_2.symm.trans hx237_2); injection ea_ with ea_ en_ ec_
               subst ea_; subst ec_; clear en_; have p238 : 0 ≤ (x6_3 : Int) := of_decide_eq_true u2_; have q238 : x6_3 < (l0_2.length : Int) := of_decide_eq_true u2_; obtain ⟨ad238, A238_2, c238_2, e238, hx238_0, hx238_1, hx238_2, hl238_2, hi238_2⟩ := at_T62 HR0_2.out x6_3 p238 q238; have hw238_2 := hx238_2; have hw238_1 := hx238_1; have hw238_0 := hx238_0; obtain rfl : ad234 = ad238 := (by injection e238); replace hx238_0 := (HB.out.cell (World.block_lt_of_cell? w _ hx238_0)).trans hx238_0; replace hx238_1 := (HB.out.cell (World.block_lt_of_cell? w _ hx238_1)).trans hx238_1; replace hx238_2 := (HB.out.cell (World.block_lt_of_cell? w _ hx238_2)).trans hx238_2; have HR238_2 := am_ hi238_2; have HC238_2 := am_ hl238_2; clear hi238_2 hl238_2; replace p238 := eq_true p238; replace q238 := eq_true q238; have ea_ := Option.some.inj (hx234_2.symm.trans hx238_2); injection ea_ with ea_ en_ ec_
               subst ea_; subst ec_; clear en_; have p239 : 0 ≤ (x6_3 : Int) := of_decide_eq_true u2_; have q239 : x6_3 < (l1_2.length : Int) := of_decide_eq_true u2_; obtain ⟨ad239, A239_2, c239_2, e239, hx239_0, hx239_1, hx239_2, hl239_2, hi239_2⟩ := at_T62 HR1_2.out x6_3 p239 q239; have hw239_2 := hx239_2; have hw239_1 := hx239_1; have hw239_0 := hx239_0; obtain rfl : ad235 = ad239 := (by injection e239); replace hx239_0 := (HB.out.cell (World.block_lt_of_cell? w _ hx239_0)).trans hx239_0; replace hx239_1 := (HB.out.cell (World.block_lt_of_cell? w _ hx239_1)).trans hx239_1; replace hx239_2 := (HB.out.cell (World.block_lt_of_cell? w _ hx239_2)).trans hx239_2; have HR239_2 := am_ hi239_2; have HC239_2 := am_ hl239_2; clear hi239_2 hl239_2; replace p239 := eq_true p239; replace q239 := eq_true q239; have ea_ := Option.some.inj (hx235_2.symm.trans hx239_2); injection ea_ with ea_ en_ ec_
               subst ea_; subst ec_; clear en_; refine start_ (n := 44) (S := fun w' => w'.cell? ⟨gb226, 0, none⟩ = some (.slice A0_0 l0_0.length c0_0) ∧ w'.cell? ⟨gb226, 1, none⟩ = some (.slice A0_1 l0_1.length c0_1) ∧ w'.cell? ⟨gb226, 2, none⟩ = some (.slice (some ad234) l0_2.length c0_2) ∧ w'.cell? ⟨gb226, 3, none⟩ = some (.int .i64 a0_3) ∧ w'.cell? ⟨gb227, 0, none⟩ = some (.slice A1_0 l1_0.length c1_0) ∧ w'.cell? ⟨gb227, 1, none⟩ = some (.slice A1_1 l1_1.length c1_1) ∧ w'.cell? ⟨gb227, 2, none⟩ = some (.slice (some ad235) l1_2.length c1_2) ∧ w'.cell? ⟨gb227, 3, none⟩ = some (.int .i64 a1_3) ∧ w'.cell? (ad234.add ((x6_3).toNat * 3)) = some (.string ((rd_T62 l0_2 x6_3).f0)) ∧ w'.cell? ⟨(ad234.add ((x6_3).toNat * 3)).block, (ad234.add ((x6_3).toNat * 3)).off + 1, none⟩ = some (.string ((rd_T62 l0_2 x6_3).f1)) ∧ w'.cell? ⟨(ad234.add ((x6_3).toNat * 3)).block, (ad234.add ((x6_3).toNat * 3)).off + 2, none⟩ = some (.slice A234_2 ((rd_T62 l0_2 x6_3).f2).length c234_2) ∧ w'.cell? (ad235.add ((x6_3).toNat * 3)) = some (.string ((rd_T62 l1_2 x6_3).f0)) ∧ w'.cell? ⟨(ad235.add ((x6_3).toNat * 3)).block, (ad235.add ((x6_3).toNat * 3)).off + 1, none⟩ = some (.string ((rd_T62 l1_2 x6_3).f1)) ∧ w'.cell? ⟨(ad235.add ((x6_3).toNat * 3)).block, (ad235.add ((x6_3).toNat * 3)).off + 2, none⟩ = some (.slice A235_2 ((rd_T62 l1_2 x6_3).f2).length c235_2) ∧ w'.cell? (ad234.add ((x6_3).toNat * 3)) = some (.string ((rd_T62 l0_2 x6_3).f0)) ∧ w'.cell? ⟨(ad234.add ((x6_3).toNat * 3)).block, (ad234.add ((x6_3).toNat * 3)).off + 1, none⟩ = some (.string ((rd_T62 l0_2 x6_3).f1)) ∧ w'.cell? ⟨(ad234.add ((x6_3).toNat * 3)).block, (ad234.add ((x6_3).toNat * 3)).off + 2, none⟩ = some (.slice A234_2 ((rd_T62 l0_2 x6_3).f2).length c234_2) ∧ w'.cell? (ad235.add ((x6_3).toNat * 3)) = some (.string ((rd_T62 l1_2 x6_3).f0)) ∧ w'.cell? ⟨(ad235.add ((x6_3).toNat * 3)).block, (ad235.add ((x6_3).toNat * 3)).off + 1, none⟩ = some (.string ((rd_T62 l1_2 x6_3).f1)) ∧ w'.cell? ⟨(ad235.add ((x6_3).toNat * 3)).block, (ad235.add ((x6_3).toNat * 3)).off + 2, none⟩ = some (.slice A235_2 ((rd_T62 l1_2 x6_3).f2).length c235_2) ∧ w'.cell? (ad234.add ((x6_3).toNat * 3)) = some (.string ((rd_T62 l0_2 x6_3).f0)) ∧ w'.cell? ⟨(ad234.add ((x6_3).toNat * 3)).block, (ad234.add ((x6_3).toNat * 3)).off + 1, none⟩ = some (.string ((rd_T62 l0_2 x6_3).f1)) ∧ w'.cell? ⟨(ad234.add ((x6_3).toNat * 3)).block, (ad234.add ((x6_3).toNat * 3)).off + 2, none⟩ = some (.slice A234_2 ((rd_T62 l0_2 x6_3).f2).length c234_2) ∧ w'.cell? (ad235.add ((x6_3).toNat * 3)) = some (.string ((rd_T62 l1_2 x6_3).f0)) ∧ w'.cell? ⟨(ad235.add ((x6_3).toNat * 3)).block, (ad235.add ((x6_3).toNat * 3)).off + 1, none⟩ = some (.string ((rd_T62 l1_2 x6_3).f1)) ∧ w'.cell? ⟨(ad235.add ((x6_3).toNat * 3)).block, (ad235.add ((x6_3).toNat * 3)).off + 2, none⟩ = some (.slice A235_2 ((rd_T62 l1_2 x6_3).f2).length c235_2)) (ds := []) (bm_ 44 0) u10_ rfl rfl ⟨(blk_cell BK226.out 0).trans rfl, (blk_cell BK226.out 1).trans rfl, (blk_cell BK226.out 2).trans rfl, (blk_cell BK226.out 3).trans rfl, (blk_cell BK227.out 0).trans rfl, (blk_cell BK227.out 1).trans rfl, (blk_cell BK227.out 2).trans rfl, (blk_cell BK227.out 3).trans rfl, ((HB.out.cell (World.block_lt_of_cell? w _ hw234_0)).trans hw234_0), ((HB.out.cell (World.block_lt_of_cell? w _ hw234_1)).trans hw234_1), ((HB.out.cell (World.block_lt_of_cell? w _ hw234_2)).trans hw234_2), ((HB.out.cell (World.block_lt_of_cell? w _ hw235_0)).trans hw235_0), ((HB.out.cell (World.block_lt_of_cell? w _ hw235_1)).trans hw235_1), ((HB.out.cell (World.block_lt_of_cell? w _ hw235_2)).trans hw235_2), ((HB.out.cell (World.block_lt_of_cell? w _ hw236_0)).trans hw236_0), ((HB.out.cell (World.block_lt_of_cell? w _ hw236_1)).trans hw236_1), ((HB.out.cell (World.block_lt_of_cell? w _ hw236_2)).trans hw236_2), ((HB.out.cell (World.block_lt_of_cell? w _ hw237_0)).trans hw237_0), ((HB.out.cell (World.block_lt_of_cell? w _ hw237_1)).trans hw237_1), ((HB.out.cell (World.block_lt_of_cell? w _ hw237_2)).trans hw237_2), ((HB.out.cell (World.block_lt_of_cell? w _ hw238_0)).trans hw238_0), ((HB.out.cell (World.block_lt_of_cell? w _ hw238_1)).trans hw238_1), ((HB.out.cell (World.block_lt_of_cell? w _ hw238_2)).trans hw238_2), ((HB.out.cell (World.block_lt_of_cell? w _ hw239_0)).trans hw239_0), ((HB.out.cell (World.block_lt_of_cell? w _ hw239_1)).trans hw239_1), ((HB.out.cell (World.block_lt_of_cell? w _ hw239_2)).trans hw239_2)⟩ (fun hHeld => ?_); refine with_tabW laws_sdIndex.tab11 laws_sdIndex.bits11 (fun HT_ HW_ => ?_); generalize wr.drew = w51 at BK226 BK227 HB HR234_2 HR235_2 HR236_2 HR237_2 HR238_2 HR239_2 hx234_0 hx234_1 hx234_2 hx235_0 hx235_1 hx235_2 hx236_0 hx236_1 hx236_2 hx237_0 hx237_1 hx237_2 hx238_0 hx238_1 hx238_2 hx239_0 hx239_1 hx239_2 hHeld ⊢; refine pure_ (i := 0) (N := some 81) (v := ?_) (a' := ?_) (bm_ 44 1) rfl rfl (any_of HT_.out u10_) (fun _ _ _ h => h) (Or.inl ⟨u32_, ?_⟩) ?_ ?_; rotate_left
               ·exact u6_
               rotate_left
               ·exact u0_
               refine pure_ (i := 2) (N := some 83) (v := ?_) (a' := ?_) (bm_ 44 5) rfl rfl (any_of HT_.out u10_) (fun _ _ _ h => h) (Or.inl ⟨u32_, ?_⟩) ?_ ?_; rotate_left
               ·exact u6_
               rotate_left
               ·exact u0_
               refine pure_ (i := 6) (N := some 87) (v := ?_) (a' := ?_) (bm_ 44 69) rfl rfl (any_of HT_.out u10_) (fun _ _ _ h => h) (Or.inl ⟨u32_, ?_⟩) ?_ ?_; rotate_left
               ·exact u6_
               rotate_left
               ·exact u0_
               refine pure_ (i := 8) (N := some 89) (v := ?_) (a' := ?_) (bm_ 44 325) rfl rfl (any_of HT_.out u10_) (fun _ _ _ h => h) (Or.inl ⟨u32_, ?_⟩) ?_ ?_; rotate_left
               ·exact u6_
               rotate_left
               ·exact u0_
               refine take_ (i := 1) (N := some 82) (v := ?_) (a' := ?_) (bm_ 44 327) rfl rfl (take_ofW HT_.out HW_.out u10_) (fun _ _ _ h => h) (Or.inl ⟨u32_, ?_⟩) hHeld ?_ ?_; rotate_left
               ·exact u9_
               rotate_left
               ·exact u0_
               refine pure_ (i := 3) (N := some 84) (v := ?_) (a' := ?_) (bm_ 44 335) rfl rfl (any_of HT_.out u10_) (fun _ _ _ h => h) (Or.inl ⟨u32_, ?_⟩) ?_ ?_; rotate_left
               ·exact u6_
               rotate_left
               ·exact u0_
               refine pure_ (i := 4) (N := some 85) (v := ?_) (a' := ?_) (bm_ 44 351) rfl rfl (any_of HT_.out u10_) (fun _ _ _ h => h) (Or.inl ⟨u32_, ?_⟩) ?_ ?_; rotate_left
               ·exact u6_
               rotate_left
               ·exact u0_
               refine take_ (i := 5) (N := some 86) (v := ?_) (a' := ?_) (bm_ 44 383) rfl rfl (take_ofW HT_.out HW_.out u10_) (fun _ _ _ h => h) (Or.inl ⟨u32_, ?_⟩) hHeld ?_ ?_; rotate_left
               ·exact u9_
               rotate_left
               ·exact u0_
               refine take_ (i := 7) (N := some 88) (v := ?_) (a' := ?_) (bm_ 44 511) rfl rfl (take_ofW HT_.out HW_.out u10_) (fun _ _ _ h => h) (Or.inl ⟨u32_, ?_⟩) hHeld ?_ ?_; rotate_left
               ·exact u9_
               rotate_left
               ·exact u0_
               refine pure_ (i := 9) (N := some 90) (v := ?_) (a' := ?_) (bm_ 44 1023) rfl rfl (any_of HT_.out u10_) (fun _ _ _ h => h) (Or.inl ⟨u32_, ?_⟩) ?_ ?_; rotate_left
               ·exact u6_
               rotate_left
               ·exact u0_
               refine pure_ (i := 10) (N := some 91) (v := ?_) (a' := ?_) (bm_ 44 2047) rfl rfl (any_of HT_.out u10_) (fun _ _ _ h => h) (Or.inl ⟨u32_, ?_⟩) ?_ ?_; rotate_left
               ·exact u6_
               rotate_left
               ·exact u0_
               refine take_ (i := 11) (N := some 92) (v := ?_) (a' := ?_) (bm_ 44 4095) rfl rfl (take_ofW HT_.out HW_.out u10_) (fun _ _ _ h => h) (Or.inl ⟨u32_, ?_⟩) hHeld ?_ ?_; rotate_left
               ·exact u9_
               rotate_left
               ·exact u0_
               refine pure_ (i := 12) (N := some 93) (v := ?_) (a' := ?_) (bm_ 44 8191) rfl rfl (any_of HT_.out u10_) (fun _ _ _ h => h) (Or.inl ⟨u32_, ?_⟩) ?_ ?_; rotate_left
               ·exact u6_
               rotate_left
               ·exact u0_
               refine pure_ (i := 13) (N := some 94) (v := ?_) (a' := ?_) (bm_ 44 16383) rfl rfl (any_of HT_.out u10_) (fun _ _ _ h => h) (Or.inl ⟨u32_, ?_⟩) ?_ ?_; rotate_left
               ·exact u6_
               rotate_left
               ·exact u0_
               refine pure_ (i := 14) (N := some 95) (v := ?_) (a' := ?_) (bm_ 44 32767) rfl rfl (any_of HT_.out u10_) (fun _ _ _ h => h) (Or.inl ⟨u32_, ?_⟩) ?_ ?_; rotate_left
               ·exact u6_
               rotate_left
               ·exact u0_
               refine pure_ (i := 16) (N := some 97) (v := ?_) (a' := ?_) (bm_ 44 98303) rfl rfl (any_of HT_.out u10_) (fun _ _ _ h => h) (Or.inl ⟨u32_, ?_⟩) ?_ ?_; rotate_left
               ·exact u6_
               rotate_left
               ·exact u0_
               refine pure_ (i := 20) (N := some 101) (v := ?_) (a' := ?_) (bm_ 44 1146879) rfl rfl (any_of HT_.out u10_) (fun _ _ _ h => h) (Or.inl ⟨u32_, ?_⟩) ?_ ?_; rotate_left
               ·exact u6_
               rotate_left
               ·exact u0_
               refine pure_ (i := 22) (N := some 103) (v := ?_) (a' := ?_) (bm_ 44 5341183) rfl rfl (any_of HT_.out u10_) (fun _ _ _ h => h) (Or.inl ⟨u32_, ?_⟩) ?_ ?_; rotate_left
               ·exact u6_
               rotate_left
               ·exact u0_
               refine take_ (i := 15) (N := some 96) (v := ?_) (a' := ?_) (bm_ 44 5373951) rfl rfl (take_ofW HT_.out HW_.out u10_) (fun _ _ _ h => h) (Or.inl ⟨u32_, ?_⟩) hHeld ?_ ?_; rotate_left
               ·exact u9_
               rotate_left
               ·exact u0_
               refine pure_ (i := 17) (N := some 98) (v := ?_) (a' := ?_) (bm_ 44 5505023) rfl rfl (any_of HT_.out u10_) (fun _ _ _ h => h) (Or.inl ⟨u32_, ?_⟩) ?_ ?_; rotate_left
               ·exact u6_
               rotate_left
               ·exact u0_
               refine pure_ (i := 18) (N := some 99) (v := ?_) (a' := ?_) (bm_ 44 5767167) rfl rfl (any_of HT_.out u10_) (fun _ _ _ h => h) (Or.inl ⟨u32_, ?_⟩) ?_ ?_; rotate_left
               ·exact u6_
               rotate_left
               ·exact u0_
               refine take_ (i := 19) (N := some 100) (v := ?_) (a' := ?_) (bm_ 44 6291455) rfl rfl (take_ofW HT_.out HW_.out u10_) (fun _ _ _ h => h) (Or.inl ⟨u32_, ?_⟩) hHeld ?_ ?_; rotate_left
               ·exact u9_
               rotate_left
               ·exact u0_
               refine take_ (i := 21) (N := some 102) (v := ?_) (a' := ?_) (bm_ 44 8388607) rfl rfl (take_ofW HT_.out HW_.out u10_) (fun _ _ _ h => h) (Or.inl ⟨u32_, ?_⟩) hHeld ?_ ?_; rotate_left
               ·exact u9_
               rotate_left
               ·exact u0_
               refine pure_ (i := 23) (N := some 104) (v := ?_) (a' := ?_) (bm_ 44 16777215) rfl rfl (any_of HT_.out u10_) (fun _ _ _ h => h) (Or.inl ⟨u32_, ?_⟩) ?_ ?_; rotate_left
               ·exact u6_
               rotate_left
               ·exact u0_
               refine pure_ (i := 24) (N := some 105) (v := ?_) (a' := ?_) (bm_ 44 33554431) rfl rfl (any_of HT_.out u10_) (fun _ _ _ h => h) (Or.inl ⟨u32_, ?_⟩) ?_ ?_; rotate_left
               ·exact u6_
               rotate_left
               ·exact u0_
               refine take_ (i := 25) (N := some 106) (v := ?_) (a' := ?_) (bm_ 44 67108863) rfl rfl (take_ofW HT_.out HW_.out u10_) (fun _ _ _ h => h) (Or.inl ⟨u32_, ?_⟩) hHeld ?_ ?_; rotate_left
               ·exact u9_
               rotate_left
               ·exact u0_
               refine pure_ (i := 26) (N := some 107) (v := ?_) (a' := ?_) (bm_ 44 134217727) rfl rfl (any_of HT_.out u10_) (fun _ _ _ h => h) (Or.inl ⟨u32_, ?_⟩) ?_ ?_; rotate_left
               ·exact u6_
               rotate_left
               ·exact u0_
               refine pure_ (i := 27) (N := some 108) (v := ?_) (a' := ?_) (bm_ 44 268435455) rfl rfl (any_of HT_.out u10_) (fun _ _ _ h => h) (Or.inl ⟨u32_, ?_⟩) ?_ ?_; rotate_left
               ·exact u6_
               rotate_left
               ·exact u0_
               refine pure_ (i := 28) (N := some 109) (v := ?_) (a' := ?_) (bm_ 44 536870911) rfl rfl (any_of HT_.out u10_) (fun _ _ _ h => h) (Or.inl ⟨u32_, ?_⟩) ?_ ?_; rotate_left
               ·exact u6_
               rotate_left
               ·exact u0_
               refine pure_ (i := 29) (N := some 110) (v := ?_) (a' := ?_) (bm_ 44 1073741823) rfl rfl (any_of HT_.out u10_) (fun _ _ _ h => h) (Or.inl ⟨u32_, ?_⟩) ?_ ?_; rotate_left
               ·exact u6_
               rotate_left
               ·exact u0_
               refine pure_ (i := 31) (N := some 112) (v := ?_) (a' := ?_) (bm_ 44 3221225471) rfl rfl (any_of HT_.out u10_) (fun _ _ _ h => h) (Or.inl ⟨u32_, ?_⟩) ?_ ?_; rotate_left
               ·exact u6_
               rotate_left
               ·exact u0_
               refine pure_ (i := 35) (N := some 116) (v := ?_) (a' := ?_) (bm_ 44 37580963839) rfl rfl (any_of HT_.out u10_) (fun _ _ _ h => h) (Or.inl ⟨u32_, ?_⟩) ?_ ?_; rotate_left
               ·exact u6_
               rotate_left
               ·exact u0_
               refine pure_ (i := 37) (N := some 118) (v := ?_) (a' := ?_) (bm_ 44 175019917311) rfl rfl (any_of HT_.out u10_) (fun _ _ _ h => h) (Or.inl ⟨u32_, ?_⟩) ?_ ?_; rotate_left
               ·exact u6_
               rotate_left
               ·exact u0_
               refine take_ (i := 30) (N := some 111) (v := ?_) (a' := ?_) (bm_ 44 176093659135) rfl rfl (take_ofW HT_.out HW_.out u10_) (fun _ _ _ h => h) (Or.inl ⟨u32_, ?_⟩) hHeld ?_ ?_; rotate_left
               ·exact u9_
               rotate_left
               ·exact u0_
               refine pure_ (i := 32) (N := some 113) (v := ?_) (a' := ?_) (bm_ 44 180388626431) rfl rfl (any_of HT_.out u10_) (fun _ _ _ h => h) (Or.inl ⟨u32_, ?_⟩) ?_ ?_; rotate_left
               ·exact u6_
               rotate_left
               ·exact u0_
               refine pure_ (i := 33) (N := some 114) (v := ?_) (a' := ?_) (bm_ 44 188978561023) rfl rfl (any_of HT_.out u10_) (fun _ _ _ h => h) (Or.inl ⟨u32_, ?_⟩) ?_ ?_; rotate_left
               ·exact u6_
               rotate_left
               ·exact u0_
               refine take_ (i := 34) (N := some 115) (v := ?_) (a' := ?_) (bm_ 44 206158430207) rfl rfl (take_ofW HT_.out HW_.out u10_) (fun _ _ _ h => h) (Or.inl ⟨u32_, ?_⟩) hHeld ?_ ?_; rotate_left
               ·exact u9_
               rotate_left
               ·exact u0_
               refine take_ (i := 36) (N := some 117) (v := ?_) (a' := ?_) (bm_ 44 274877906943) rfl rfl (take_ofW HT_.out HW_.out u10_) (fun _ _ _ h => h) (Or.inl ⟨u32_, ?_⟩) hHeld ?_ ?_; rotate_left
               ·exact u9_
               rotate_left
               ·exact u0_
               refine pure_ (i := 38) (N := some 119) (v := ?_) (a' := ?_) (bm_ 44 549755813887) rfl rfl (any_of HT_.out u10_) (fun _ _ _ h => h) (Or.inl ⟨u32_, ?_⟩) ?_ ?_; rotate_left
               ·exact u6_
               rotate_left
               ·exact u0_
               refine pure_ (i := 39) (N := some 120) (v := ?_) (a' := ?_) (bm_ 44 1099511627775) rfl rfl (any_of HT_.out u10_) (fun _ _ _ h => h) (Or.inl ⟨u32_, ?_⟩) ?_ ?_; rotate_left
               ·exact u6_
               rotate_left
               ·exact u0_
               refine take_ (i := 40) (N := some 121) (v := ?_) (a' := ?_) (bm_ 44 2199023255551) rfl rfl (take_ofW HT_.out HW_.out u10_) (fun _ _ _ h => h) (Or.inl ⟨u32_, ?_⟩) hHeld ?_ ?_; rotate_left
               ·exact u9_
               rotate_left
               ·exact u0_
               refine one_ (i := 41) (N := some 122) (bm_ 44 4398046511103) rfl rfl (one_of HT_.out u10_) u44_ (fun K hK => ?_); refine goes_ Tryz.func29 u10_ rfl #[.slice A234_2 ((rd_T62 l0_2 x6_3).f2).length c234_2, .slice A235_2 ((rd_T62 l1_2 x6_3).f2).length c235_2] u32_ rfl rfl u3_ ?_; with_reducible refine (laws_sdPosts.calls k3 _ _ ((rd_T62 l0_2 x6_3).f2) _ _ ((rd_T62 l1_2 x6_3).f2) true _ ?side1 ?side2 ?side3 ?side4 A47.out).mono ?_
               (case side1 => exact u76_)
               (case side2 => exact HC238_2.out)
               (case side3 => exact u77_)
               (case side4 => exact HC239_2.out)
               rintro e w' ⟨rfl, ⟨nd, rfl⟩⟩; refine ⟨_, rfl, ?_⟩; refine hK.out _ _ ⟨(blk_cell BK226.out 0).trans rfl, (blk_cell BK226.out 1).trans rfl, (blk_cell BK226.out 2).trans rfl, (blk_cell BK226.out 3).trans rfl, (blk_cell BK227.out 0).trans rfl, (blk_cell BK227.out 1).trans rfl, (blk_cell BK227.out 2).trans rfl, (blk_cell BK227.out 3).trans rfl, ((HB.out.cell (World.block_lt_of_cell? w _ hw234_0)).trans hw234_0), ((HB.out.cell (World.block_lt_of_cell? w _ hw234_1)).trans hw234_1), ((HB.out.cell (World.block_lt_of_cell? w _ hw234_2)).trans hw234_2), ((HB.out.cell (World.block_lt_of_cell? w _ hw235_0)).trans hw235_0), ((HB.out.cell (World.block_lt_of_cell? w _ hw235_1)).trans hw235_1), ((HB.out.cell (World.block_lt_of_cell? w _ hw235_2)).trans hw235_2), ((HB.out.cell (World.block_lt_of_cell? w _ hw236_0)).trans hw236_0), ((HB.out.cell (World.block_lt_of_cell? w _ hw236_1)).trans hw236_1), ((HB.out.cell (World.block_lt_of_cell? w _ hw236_2)).trans hw236_2), ((HB.out.cell (World.block_lt_of_cell? w _ hw237_0)).trans hw237_0), ((HB.out.cell (World.block_lt_of_cell? w _ hw237_1)).trans hw237_1), ((HB.out.cell (World.block_lt_of_cell? w _ hw237_2)).trans hw237_2), ((HB.out.cell (World.block_lt_of_cell? w _ hw238_0)).trans hw238_0), ((HB.out.cell (World.block_lt_of_cell? w _ hw238_1)).trans hw238_1), ((HB.out.cell (World.block_lt_of_cell? w _ hw238_2)).trans hw238_2), ((HB.out.cell (World.block_lt_of_cell? w _ hw239_0)).trans hw239_0), ((HB.out.cell (World.block_lt_of_cell? w _ hw239_1)).trans hw239_1), ((HB.out.cell (World.block_lt_of_cell? w _ hw239_2)).trans hw239_2)⟩ (fun hHeld => ?_); clear hK K; refine norm_ (a' := ?_) ?_ ?_; rotate_left
               ·show Act.put _ (some 122) _ = _
                simp only [Act.put, List.setIfInBounds_toArray, List.set_cons_zero, List.set_cons_succ, i64_w, i32_w]; rfl
               refine pure_ (i := 42) (N := some 123) (v := ?_) (a' := ?_) (bm_ 44 8796093022207) rfl rfl (any_of HT_.out u10_) (fun _ _ _ h => h) (Or.inl ⟨u32_, ?_⟩) ?_ ?_; rotate_left
               ·exact u6_
               rotate_left
               ·exact u0_
               refine pure_ (i := 43) (N := some 124) (v := ?_) (a' := ?_) (bm_ 44 17592186044415) rfl rfl (any_of HT_.out u10_) (fun _ _ _ h => h) (Or.inl ⟨u32_, ?_⟩) ?_ ?_; rotate_left
               ·exact u6_
               rotate_left
               ·exact u0_
               refine done_ (done_of HT_.out u10_) ?_; try go_wp2
               go_roundg k3
               case measure => have := HJ2.out; have := HK2.out; have := HK3.out; omega
               case rel => exact ⟨(wrap64 (x6_3 + 1)), u20_, H', ⟨by have := HJ2.out; have := HK2.out; have := HK3.out; omega⟩, ⟨u24_⟩, ⟨u31_⟩, ⟨u11_⟩⟩
              ·replace c48 := Bool.eq_false_iff.mpr c48; subst c48; rw [if_neg (show ¬ (false = true) by decide)] at H; obtain rfl := Option.some.inj H; have hnb52 := NB226_227.out; have hnc52 := NB227_226.out; have hcz53_0 : wr.cell? ⟨gb226, 0, none⟩ = some (.slice A0_0 l0_0.length c0_0) := (blk_cell BK226.out 0).trans rfl; have hcz53_1 : wr.cell? ⟨gb226, 1, none⟩ = some (.slice A0_1 l0_1.length c0_1) := (blk_cell BK226.out 1).trans rfl; have hcz53_2 : wr.cell? ⟨gb226, 2, none⟩ = some (.slice A0_2 l0_2.length c0_2) := (blk_cell BK226.out 2).trans rfl; have hcz53_3 : wr.cell? ⟨gb226, 3, none⟩ = some (.int .i64 a0_3) := (blk_cell BK226.out 3).trans rfl; have hfz53_0 := blk_frozen BK226.out 0; have hfz53_1 := blk_frozen BK226.out 1; have hfz53_2 := blk_frozen BK226.out 2; have hfz53_3 := blk_frozen BK226.out 3; try go_wp2
               replace BK226 := am_ (blk_drew BK226.out); replace BK227 := am_ (blk_drew BK227.out); replace HB := am_ (below_drew1 HB.out); have p234 : 0 ≤ (x6_3 : Int) := of_decide_eq_true u2_; have q234 : x6_3 < (l0_2.length : Int) := of_decide_eq_true u2_; obtain ⟨ad234, A234_2, c234_2, e234, hx234_0, hx234_1, hx234_2, hl234_2, hi234_2⟩ := at_T62 HR0_2.out x6_3 p234 q234; have hw234_2 := hx234_2; have hw234_1 := hx234_1; have hw234_0 := hx234_0; cases e234; replace hx234_0 := (HB.out.cell (World.block_lt_of_cell? w _ hx234_0)).trans hx234_0; replace hx234_1 := (HB.out.cell (World.block_lt_of_cell? w _ hx234_1)).trans hx234_1; replace hx234_2 := (HB.out.cell (World.block_lt_of_cell? w _ hx234_2)).trans hx234_2; have HR234_2 := am_ hi234_2; have HC234_2 := am_ hl234_2; clear hi234_2 hl234_2; replace p234 := eq_true p234; replace q234 := eq_true q234; have p235 : 0 ≤ (x6_3 : Int) := of_decide_eq_true u2_; have q235 : x6_3 < (l1_2.length : Int) := of_decide_eq_true u2_; obtain ⟨ad235, A235_2, c235_2, e235, hx235_0, hx235_1, hx235_2, hl235_2, hi235_2⟩ := at_T62 HR1_2.out x6_3 p235 q235; have hw235_2 := hx235_2; have hw235_1 := hx235_1; have hw235_0 := hx235_0; cases e235; replace hx235_0 := (HB.out.cell (World.block_lt_of_cell? w _ hx235_0)).trans hx235_0; replace hx235_1 := (HB.out.cell (World.block_lt_of_cell? w _ hx235_1)).trans hx235_1; replace hx235_2 := (HB.out.cell (World.block_lt_of_cell? w _ hx235_2)).trans hx235_2; have HR235_2 := am_ hi235_2; have HC235_2 := am_ hl235_2; clear hi235_2 hl235_2; replace p235 := eq_true p235; replace q235 := eq_true q235; have p236 : 0 ≤ (x6_3 : Int) := of_decide_eq_true u2_; have q236 : x6_3 < (l0_2.length : Int) := of_decide_eq_true u2_; obtain ⟨ad236, A236_2, c236_2, e236, hx236_0, hx236_1, hx236_2, hl236_2, hi236_2⟩ := at_T62 HR0_2.out x6_3 p236 q236; have hw236_2 := hx236_2; have hw236_1 := hx236_1; have hw236_0 := hx236_0; obtain rfl : ad234 = ad236 := (by injection e236); replace hx236_0 := (HB.out.cell (World.block_lt_of_cell? w _ hx236_0)).trans hx236_0; replace hx236_1 := (HB.out.cell (World.block_lt_of_cell? w _ hx236_1)).trans hx236_1; replace hx236_2 := (HB.out.cell (World.block_lt_of_cell? w _ hx236_2)).trans hx236_2; have HR236_2 := am_ hi236_2; have HC236_2 := am_ hl236_2; clear hi236_2 hl236_2; replace p236 := eq_true p236; replace q236 := eq_true q236; have ea_ := Option.some.inj (hx234_2.symm.trans hx236_2); injection ea_ with ea_ en_ ec_
               subst ea_; subst ec_; clear en_; have p237 : 0 ≤ (x6_3 : Int) := of_decide_eq_true u2_; have q237 : x6_3 < (l1_2.length : Int) := of_decide_eq_true u2_; obtain ⟨ad237, A237_2, c237_2, e237, hx237_0, hx237_1, hx237_2, hl237_2, hi237_2⟩ := at_T62 HR1_2.out x6_3 p237 q237; have hw237_2 := hx237_2; have hw237_1 := hx237_1; have hw237_0 := hx237_0; obtain rfl : ad235 = ad237 := (by injection e237); replace hx237_0 := (HB.out.cell (World.block_lt_of_cell? w _ hx237_0)).trans hx237_0; replace hx237_1 := (HB.out.cell (World.block_lt_of_cell? w _ hx237_1)).trans hx237_1; replace hx237_2 := (HB.out.cell (World.block_lt_of_cell? w _ hx237_2)).trans hx237_2; have HR237_2 := am_ hi237_2; have HC237_2 := am_ hl237_2; clear hi237_2 hl237_2; replace p237 := eq_true p237; replace q237 := eq_true q237; have ea_ := Option.some.inj (hx235_2.symm.trans hx237_2); injection ea_ with ea_ en_ ec_
               subst ea_; subst ec_; clear en_; have p238 : 0 ≤ (x6_3 : Int) := of_decide_eq_true u2_; have q238 : x6_3 < (l0_2.length : Int) := of_decide_eq_true u2_; obtain ⟨ad238, A238_2, c238_2, e238, hx238_0, hx238_1, hx238_2, hl238_2, hi238_2⟩ := at_T62 HR0_2.out x6_3 p238 q238; have hw238_2 := hx238_2; have hw238_1 := hx238_1; have hw238_0 := hx238_0; obtain rfl : ad234 = ad238 := (by injection e238); replace hx238_0 := (HB.out.cell (World.block_lt_of_cell? w _ hx238_0)).trans hx238_0; replace hx238_1 := (HB.out.cell (World.block_lt_of_cell? w _ hx238_1)).trans hx238_1; replace hx238_2 := (HB.out.cell (World.block_lt_of_cell? w _ hx238_2)).trans hx238_2; have HR238_2 := am_ hi238_2; have HC238_2 := am_ hl238_2; clear hi238_2 hl238_2; replace p238 := eq_true p238; replace q238 := eq_true q238; have ea_ := Option.some.inj (hx234_2.symm.trans hx238_2); injection ea_ with ea_ en_ ec_
               subst ea_; subst ec_; clear en_; have p239 : 0 ≤ (x6_3 : Int) := of_decide_eq_true u2_; have q239 : x6_3 < (l1_2.length : Int) := of_decide_eq_true u2_; obtain ⟨ad239, A239_2, c239_2, e239, hx239_0, hx239_1, hx239_2, hl239_2, hi239_2⟩ := at_T62 HR1_2.out x6_3 p239 q239; have hw239_2 := hx239_2; have hw239_1 := hx239_1; have hw239_0 := hx239_0; obtain rfl : ad235 = ad239 := (by injection e239); replace hx239_0 := (HB.out.cell (World.block_lt_of_cell? w _ hx239_0)).trans hx239_0; replace hx239_1 := (HB.out.cell (World.block_lt_of_cell? w _ hx239_1)).trans hx239_1; replace hx239_2 := (HB.out.cell (World.block_lt_of_cell? w _ hx239_2)).trans hx239_2; have HR239_2 := am_ hi239_2; have HC239_2 := am_ hl239_2; clear hi239_2 hl239_2; replace p239 := eq_true p239; replace q239 := eq_true q239; have ea_ := Option.some.inj (hx235_2.symm.trans hx239_2); injection ea_ with ea_ en_ ec_
               subst ea_; subst ec_; clear en_; refine start_ (n := 44) (S := fun w' => w'.cell? ⟨gb226, 0, none⟩ = some (.slice A0_0 l0_0.length c0_0) ∧ w'.cell? ⟨gb226, 1, none⟩ = some (.slice A0_1 l0_1.length c0_1) ∧ w'.cell? ⟨gb226, 2, none⟩ = some (.slice (some ad234) l0_2.length c0_2) ∧ w'.cell? ⟨gb226, 3, none⟩ = some (.int .i64 a0_3) ∧ w'.cell? ⟨gb227, 0, none⟩ = some (.slice A1_0 l1_0.length c1_0) ∧ w'.cell? ⟨gb227, 1, none⟩ = some (.slice A1_1 l1_1.length c1_1) ∧ w'.cell? ⟨gb227, 2, none⟩ = some (.slice (some ad235) l1_2.length c1_2) ∧ w'.cell? ⟨gb227, 3, none⟩ = some (.int .i64 a1_3) ∧ w'.cell? (ad234.add ((x6_3).toNat * 3)) = some (.string ((rd_T62 l0_2 x6_3).f0)) ∧ w'.cell? ⟨(ad234.add ((x6_3).toNat * 3)).block, (ad234.add ((x6_3).toNat * 3)).off + 1, none⟩ = some (.string ((rd_T62 l0_2 x6_3).f1)) ∧ w'.cell? ⟨(ad234.add ((x6_3).toNat * 3)).block, (ad234.add ((x6_3).toNat * 3)).off + 2, none⟩ = some (.slice A234_2 ((rd_T62 l0_2 x6_3).f2).length c234_2) ∧ w'.cell? (ad235.add ((x6_3).toNat * 3)) = some (.string ((rd_T62 l1_2 x6_3).f0)) ∧ w'.cell? ⟨(ad235.add ((x6_3).toNat * 3)).block, (ad235.add ((x6_3).toNat * 3)).off + 1, none⟩ = some (.string ((rd_T62 l1_2 x6_3).f1)) ∧ w'.cell? ⟨(ad235.add ((x6_3).toNat * 3)).block, (ad235.add ((x6_3).toNat * 3)).off + 2, none⟩ = some (.slice A235_2 ((rd_T62 l1_2 x6_3).f2).length c235_2) ∧ w'.cell? (ad234.add ((x6_3).toNat * 3)) = some (.string ((rd_T62 l0_2 x6_3).f0)) ∧ w'.cell? ⟨(ad234.add ((x6_3).toNat * 3)).block, (ad234.add ((x6_3).toNat * 3)).off + 1, none⟩ = some (.string ((rd_T62 l0_2 x6_3).f1)) ∧ w'.cell? ⟨(ad234.add ((x6_3).toNat * 3)).block, (ad234.add ((x6_3).toNat * 3)).off + 2, none⟩ = some (.slice A234_2 ((rd_T62 l0_2 x6_3).f2).length c234_2) ∧ w'.cell? (ad235.add ((x6_3).toNat * 3)) = some (.string ((rd_T62 l1_2 x6_3).f0)) ∧ w'.cell? ⟨(ad235.add ((x6_3).toNat * 3)).block, (ad235.add ((x6_3).toNat * 3)).off + 1, none⟩ = some (.string ((rd_T62 l1_2 x6_3).f1)) ∧ w'.cell? ⟨(ad235.add ((x6_3).toNat * 3)).block, (ad235.add ((x6_3).toNat * 3)).off + 2, none⟩ = some (.slice A235_2 ((rd_T62 l1_2 x6_3).f2).length c235_2) ∧ w'.cell? (ad234.add ((x6_3).toNat * 3)) = some (.string ((rd_T62 l0_2 x6_3).f0)) ∧ w'.cell? ⟨(ad234.add ((x6_3).toNat * 3)).block, (ad234.add ((x6_3).toNat * 3)).off + 1, none⟩ = some (.string ((rd_T62 l0_2 x6_3).f1)) ∧ w'.cell? ⟨(ad234.add ((x6_3).toNat * 3)).block, (ad234.add ((x6_3).toNat * 3)).off + 2, none⟩ = some (.slice A234_2 ((rd_T62 l0_2 x6_3).f2).length c234_2) ∧ w'.cell? (ad235.add ((x6_3).toNat * 3)) = some (.string ((rd_T62 l1_2 x6_3).f0)) ∧ w'.cell? ⟨(ad235.add ((x6_3).toNat * 3)).block, (ad235.add ((x6_3).toNat * 3)).off + 1, none⟩ = some (.string ((rd_T62 l1_2 x6_3).f1)) ∧ w'.cell? ⟨(ad235.add ((x6_3).toNat * 3)).block, (ad235.add ((x6_3).toNat * 3)).off + 2, none⟩ = some (.slice A235_2 ((rd_T62 l1_2 x6_3).f2).length c235_2)) (ds := []) (bm_ 44 0) u10_ rfl rfl ⟨(blk_cell BK226.out 0).trans rfl, (blk_cell BK226.out 1).trans rfl, (blk_cell BK226.out 2).trans rfl, (blk_cell BK226.out 3).trans rfl, (blk_cell BK227.out 0).trans rfl, (blk_cell BK227.out 1).trans rfl, (blk_cell BK227.out 2).trans rfl, (blk_cell BK227.out 3).trans rfl, ((HB.out.cell (World.block_lt_of_cell? w _ hw234_0)).trans hw234_0), ((HB.out.cell (World.block_lt_of_cell? w _ hw234_1)).trans hw234_1), ((HB.out.cell (World.block_lt_of_cell? w _ hw234_2)).trans hw234_2), ((HB.out.cell (World.block_lt_of_cell? w _ hw235_0)).trans hw235_0), ((HB.out.cell (World.block_lt_of_cell? w _ hw235_1)).trans hw235_1), ((HB.out.cell (World.block_lt_of_cell? w _ hw235_2)).trans hw235_2), ((HB.out.cell (World.block_lt_of_cell? w _ hw236_0)).trans hw236_0), ((HB.out.cell (World.block_lt_of_cell? w _ hw236_1)).trans hw236_1), ((HB.out.cell (World.block_lt_of_cell? w _ hw236_2)).trans hw236_2), ((HB.out.cell (World.block_lt_of_cell? w _ hw237_0)).trans hw237_0), ((HB.out.cell (World.block_lt_of_cell? w _ hw237_1)).trans hw237_1), ((HB.out.cell (World.block_lt_of_cell? w _ hw237_2)).trans hw237_2), ((HB.out.cell (World.block_lt_of_cell? w _ hw238_0)).trans hw238_0), ((HB.out.cell (World.block_lt_of_cell? w _ hw238_1)).trans hw238_1), ((HB.out.cell (World.block_lt_of_cell? w _ hw238_2)).trans hw238_2), ((HB.out.cell (World.block_lt_of_cell? w _ hw239_0)).trans hw239_0), ((HB.out.cell (World.block_lt_of_cell? w _ hw239_1)).trans hw239_1), ((HB.out.cell (World.block_lt_of_cell? w _ hw239_2)).trans hw239_2)⟩ (fun hHeld => ?_); refine with_tabW laws_sdIndex.tab11 laws_sdIndex.bits11 (fun HT_ HW_ => ?_); generalize wr.drew = w54 at BK226 BK227 HB HR234_2 HR235_2 HR236_2 HR237_2 HR238_2 HR239_2 hx234_0 hx234_1 hx234_2 hx235_0 hx235_1 hx235_2 hx236_0 hx236_1 hx236_2 hx237_0 hx237_1 hx237_2 hx238_0 hx238_1 hx238_2 hx239_0 hx239_1 hx239_2 hHeld ⊢; refine pure_ (i := 0) (N := some 81) (v := ?_) (a' := ?_) (bm_ 44 1) rfl rfl (any_of HT_.out u10_) (fun _ _ _ h => h) (Or.inl ⟨u32_, ?_⟩) ?_ ?_; rotate_left
               ·exact u6_
               rotate_left
               ·exact u0_
               refine pure_ (i := 2) (N := some 83) (v := ?_) (a' := ?_) (bm_ 44 5) rfl rfl (any_of HT_.out u10_) (fun _ _ _ h => h) (Or.inl ⟨u32_, ?_⟩) ?_ ?_; rotate_left
               ·exact u6_
               rotate_left
               ·exact u0_
               refine pure_ (i := 6) (N := some 87) (v := ?_) (a' := ?_) (bm_ 44 69) rfl rfl (any_of HT_.out u10_) (fun _ _ _ h => h) (Or.inl ⟨u32_, ?_⟩) ?_ ?_; rotate_left
               ·exact u6_
               rotate_left
               ·exact u0_
               refine pure_ (i := 8) (N := some 89) (v := ?_) (a' := ?_) (bm_ 44 325) rfl rfl (any_of HT_.out u10_) (fun _ _ _ h => h) (Or.inl ⟨u32_, ?_⟩) ?_ ?_; rotate_left
               ·exact u6_
               rotate_left
               ·exact u0_
               refine take_ (i := 1) (N := some 82) (v := ?_) (a' := ?_) (bm_ 44 327) rfl rfl (take_ofW HT_.out HW_.out u10_) (fun _ _ _ h => h) (Or.inl ⟨u32_, ?_⟩) hHeld ?_ ?_; rotate_left
               ·exact u9_
               rotate_left
               ·exact u0_
               refine pure_ (i := 3) (N := some 84) (v := ?_) (a' := ?_) (bm_ 44 335) rfl rfl (any_of HT_.out u10_) (fun _ _ _ h => h) (Or.inl ⟨u32_, ?_⟩) ?_ ?_; rotate_left
               ·exact u6_
               rotate_left
               ·exact u0_
               refine pure_ (i := 4) (N := some 85) (v := ?_) (a' := ?_) (bm_ 44 351) rfl rfl (any_of HT_.out u10_) (fun _ _ _ h => h) (Or.inl ⟨u32_, ?_⟩) ?_ ?_; rotate_left
               ·exact u6_
               rotate_left
               ·exact u0_
               refine take_ (i := 5) (N := some 86) (v := ?_) (a' := ?_) (bm_ 44 383) rfl rfl (take_ofW HT_.out HW_.out u10_) (fun _ _ _ h => h) (Or.inl ⟨u32_, ?_⟩) hHeld ?_ ?_; rotate_left
               ·exact u9_
               rotate_left
               ·exact u0_
               refine take_ (i := 7) (N := some 88) (v := ?_) (a' := ?_) (bm_ 44 511) rfl rfl (take_ofW HT_.out HW_.out u10_) (fun _ _ _ h => h) (Or.inl ⟨u32_, ?_⟩) hHeld ?_ ?_; rotate_left
               ·exact u9_
               rotate_left
               ·exact u0_
               refine pure_ (i := 9) (N := some 90) (v := ?_) (a' := ?_) (bm_ 44 1023) rfl rfl (any_of HT_.out u10_) (fun _ _ _ h => h) (Or.inl ⟨u32_, ?_⟩) ?_ ?_; rotate_left
               ·exact u6_
               rotate_left
               ·exact u0_
               refine pure_ (i := 10) (N := some 91) (v := ?_) (a' := ?_) (bm_ 44 2047) rfl rfl (any_of HT_.out u10_) (fun _ _ _ h => h) (Or.inl ⟨u32_, ?_⟩) ?_ ?_; rotate_left
               ·exact u6_
               rotate_left
               ·exact u0_
               refine take_ (i := 11) (N := some 92) (v := ?_) (a' := ?_) (bm_ 44 4095) rfl rfl (take_ofW HT_.out HW_.out u10_) (fun _ _ _ h => h) (Or.inl ⟨u32_, ?_⟩) hHeld ?_ ?_; rotate_left
               ·exact u9_
               rotate_left
               ·exact u0_
               refine pure_ (i := 12) (N := some 93) (v := ?_) (a' := ?_) (bm_ 44 8191) rfl rfl (any_of HT_.out u10_) (fun _ _ _ h => h) (Or.inl ⟨u32_, ?_⟩) ?_ ?_; rotate_left
               ·exact u6_
               rotate_left
               ·exact u0_
               refine pure_ (i := 13) (N := some 94) (v := ?_) (a' := ?_) (bm_ 44 16383) rfl rfl (any_of HT_.out u10_) (fun _ _ _ h => h) (Or.inl ⟨u32_, ?_⟩) ?_ ?_; rotate_left
               ·exact u6_
               rotate_left
               ·exact u0_
               refine pure_ (i := 14) (N := some 95) (v := ?_) (a' := ?_) (bm_ 44 32767) rfl rfl (any_of HT_.out u10_) (fun _ _ _ h => h) (Or.inl ⟨u32_, ?_⟩) ?_ ?_; rotate_left
               ·exact u6_
               rotate_left
               ·exact u0_
               refine pure_ (i := 16) (N := some 97) (v := ?_) (a' := ?_) (bm_ 44 98303) rfl rfl (any_of HT_.out u10_) (fun _ _ _ h => h) (Or.inl ⟨u32_, ?_⟩) ?_ ?_; rotate_left
               ·exact u6_
               rotate_left
               ·exact u0_
               refine pure_ (i := 20) (N := some 101) (v := ?_) (a' := ?_) (bm_ 44 1146879) rfl rfl (any_of HT_.out u10_) (fun _ _ _ h => h) (Or.inl ⟨u32_, ?_⟩) ?_ ?_; rotate_left
               ·exact u6_
               rotate_left
               ·exact u0_
               refine pure_ (i := 22) (N := some 103) (v := ?_) (a' := ?_) (bm_ 44 5341183) rfl rfl (any_of HT_.out u10_) (fun _ _ _ h => h) (Or.inl ⟨u32_, ?_⟩) ?_ ?_; rotate_left
               ·exact u6_
               rotate_left
               ·exact u0_
               refine take_ (i := 15) (N := some 96) (v := ?_) (a' := ?_) (bm_ 44 5373951) rfl rfl (take_ofW HT_.out HW_.out u10_) (fun _ _ _ h => h) (Or.inl ⟨u32_, ?_⟩) hHeld ?_ ?_; rotate_left
               ·exact u9_
               rotate_left
               ·exact u0_
               refine pure_ (i := 17) (N := some 98) (v := ?_) (a' := ?_) (bm_ 44 5505023) rfl rfl (any_of HT_.out u10_) (fun _ _ _ h => h) (Or.inl ⟨u32_, ?_⟩) ?_ ?_; rotate_left
               ·exact u6_
               rotate_left
               ·exact u0_
               refine pure_ (i := 18) (N := some 99) (v := ?_) (a' := ?_) (bm_ 44 5767167) rfl rfl (any_of HT_.out u10_) (fun _ _ _ h => h) (Or.inl ⟨u32_, ?_⟩) ?_ ?_; rotate_left
               ·exact u6_
               rotate_left
               ·exact u0_
               refine take_ (i := 19) (N := some 100) (v := ?_) (a' := ?_) (bm_ 44 6291455) rfl rfl (take_ofW HT_.out HW_.out u10_) (fun _ _ _ h => h) (Or.inl ⟨u32_, ?_⟩) hHeld ?_ ?_; rotate_left
               ·exact u9_
               rotate_left
               ·exact u0_
               refine take_ (i := 21) (N := some 102) (v := ?_) (a' := ?_) (bm_ 44 8388607) rfl rfl (take_ofW HT_.out HW_.out u10_) (fun _ _ _ h => h) (Or.inl ⟨u32_, ?_⟩) hHeld ?_ ?_; rotate_left
               ·exact u9_
               rotate_left
               ·exact u0_
               refine pure_ (i := 23) (N := some 104) (v := ?_) (a' := ?_) (bm_ 44 16777215) rfl rfl (any_of HT_.out u10_) (fun _ _ _ h => h) (Or.inl ⟨u32_, ?_⟩) ?_ ?_; rotate_left
               ·exact u6_
               rotate_left
               ·exact u0_
               refine pure_ (i := 24) (N := some 105) (v := ?_) (a' := ?_) (bm_ 44 33554431) rfl rfl (any_of HT_.out u10_) (fun _ _ _ h => h) (Or.inl ⟨u32_, ?_⟩) ?_ ?_; rotate_left
               ·exact u6_
               rotate_left
               ·exact u0_
               refine take_ (i := 25) (N := some 106) (v := ?_) (a' := ?_) (bm_ 44 67108863) rfl rfl (take_ofW HT_.out HW_.out u10_) (fun _ _ _ h => h) (Or.inl ⟨u32_, ?_⟩) hHeld ?_ ?_; rotate_left
               ·exact u9_
               rotate_left
               ·exact u0_
               refine pure_ (i := 26) (N := some 107) (v := ?_) (a' := ?_) (bm_ 44 134217727) rfl rfl (any_of HT_.out u10_) (fun _ _ _ h => h) (Or.inl ⟨u32_, ?_⟩) ?_ ?_; rotate_left
               ·exact u6_
               rotate_left
               ·exact u0_
               refine pure_ (i := 27) (N := some 108) (v := ?_) (a' := ?_) (bm_ 44 268435455) rfl rfl (any_of HT_.out u10_) (fun _ _ _ h => h) (Or.inl ⟨u32_, ?_⟩) ?_ ?_; rotate_left
               ·exact u6_
               rotate_left
               ·exact u0_
               refine pure_ (i := 28) (N := some 109) (v := ?_) (a' := ?_) (bm_ 44 536870911) rfl rfl (any_of HT_.out u10_) (fun _ _ _ h => h) (Or.inl ⟨u32_, ?_⟩) ?_ ?_; rotate_left
               ·exact u6_
               rotate_left
               ·exact u0_
               refine pure_ (i := 29) (N := some 110) (v := ?_) (a' := ?_) (bm_ 44 1073741823) rfl rfl (any_of HT_.out u10_) (fun _ _ _ h => h) (Or.inl ⟨u32_, ?_⟩) ?_ ?_; rotate_left
               ·exact u6_
               rotate_left
               ·exact u0_
               refine pure_ (i := 31) (N := some 112) (v := ?_) (a' := ?_) (bm_ 44 3221225471) rfl rfl (any_of HT_.out u10_) (fun _ _ _ h => h) (Or.inl ⟨u32_, ?_⟩) ?_ ?_; rotate_left
               ·exact u6_
               rotate_left
               ·exact u0_
               refine pure_ (i := 35) (N := some 116) (v := ?_) (a' := ?_) (bm_ 44 37580963839) rfl rfl (any_of HT_.out u10_) (fun _ _ _ h => h) (Or.inl ⟨u32_, ?_⟩) ?_ ?_; rotate_left
               ·exact u6_
               rotate_left
               ·exact u0_
               refine pure_ (i := 37) (N := some 118) (v := ?_) (a' := ?_) (bm_ 44 175019917311) rfl rfl (any_of HT_.out u10_) (fun _ _ _ h => h) (Or.inl ⟨u32_, ?_⟩) ?_ ?_; rotate_left
               ·exact u6_
               rotate_left
               ·exact u0_
               refine take_ (i := 30) (N := some 111) (v := ?_) (a' := ?_) (bm_ 44 176093659135) rfl rfl (take_ofW HT_.out HW_.out u10_) (fun _ _ _ h => h) (Or.inl ⟨u32_, ?_⟩) hHeld ?_ ?_; rotate_left
               ·exact u9_
               rotate_left
               ·exact u0_
               refine pure_ (i := 32) (N := some 113) (v := ?_) (a' := ?_) (bm_ 44 180388626431) rfl rfl (any_of HT_.out u10_) (fun _ _ _ h => h) (Or.inl ⟨u32_, ?_⟩) ?_ ?_; rotate_left
               ·exact u6_
               rotate_left
               ·exact u0_
               refine pure_ (i := 33) (N := some 114) (v := ?_) (a' := ?_) (bm_ 44 188978561023) rfl rfl (any_of HT_.out u10_) (fun _ _ _ h => h) (Or.inl ⟨u32_, ?_⟩) ?_ ?_; rotate_left
               ·exact u6_
               rotate_left
               ·exact u0_
               refine take_ (i := 34) (N := some 115) (v := ?_) (a' := ?_) (bm_ 44 206158430207) rfl rfl (take_ofW HT_.out HW_.out u10_) (fun _ _ _ h => h) (Or.inl ⟨u32_, ?_⟩) hHeld ?_ ?_; rotate_left
               ·exact u9_
               rotate_left
               ·exact u0_
               refine take_ (i := 36) (N := some 117) (v := ?_) (a' := ?_) (bm_ 44 274877906943) rfl rfl (take_ofW HT_.out HW_.out u10_) (fun _ _ _ h => h) (Or.inl ⟨u32_, ?_⟩) hHeld ?_ ?_; rotate_left
               ·exact u9_
               rotate_left
               ·exact u0_
               refine pure_ (i := 38) (N := some 119) (v := ?_) (a' := ?_) (bm_ 44 549755813887) rfl rfl (any_of HT_.out u10_) (fun _ _ _ h => h) (Or.inl ⟨u32_, ?_⟩) ?_ ?_; rotate_left
               ·exact u6_
               rotate_left
               ·exact u0_
               refine pure_ (i := 39) (N := some 120) (v := ?_) (a' := ?_) (bm_ 44 1099511627775) rfl rfl (any_of HT_.out u10_) (fun _ _ _ h => h) (Or.inl ⟨u32_, ?_⟩) ?_ ?_; rotate_left
               ·exact u6_
               rotate_left
               ·exact u0_
               refine take_ (i := 40) (N := some 121) (v := ?_) (a' := ?_) (bm_ 44 2199023255551) rfl rfl (take_ofW HT_.out HW_.out u10_) (fun _ _ _ h => h) (Or.inl ⟨u32_, ?_⟩) hHeld ?_ ?_; rotate_left
               ·exact u9_
               rotate_left
               ·exact u0_
               refine one_ (i := 41) (N := some 122) (bm_ 44 4398046511103) rfl rfl (one_of HT_.out u10_) u44_ (fun K hK => ?_); refine goes_ Tryz.func29 u10_ rfl #[.slice A234_2 ((rd_T62 l0_2 x6_3).f2).length c234_2, .slice A235_2 ((rd_T62 l1_2 x6_3).f2).length c235_2] u32_ rfl rfl u3_ ?_; with_reducible refine (laws_sdPosts.calls k3 _ _ ((rd_T62 l0_2 x6_3).f2) _ _ ((rd_T62 l1_2 x6_3).f2) false _ ?side1 ?side2 ?side3 ?side4 A47.out).mono ?_
               (case side1 => exact u76_)
               (case side2 => exact HC238_2.out)
               (case side3 => exact u77_)
               (case side4 => exact HC239_2.out)
               rintro e w' ⟨rfl, ⟨nd, rfl⟩⟩; refine ⟨_, rfl, ?_⟩; refine hK.out _ _ ⟨(blk_cell BK226.out 0).trans rfl, (blk_cell BK226.out 1).trans rfl, (blk_cell BK226.out 2).trans rfl, (blk_cell BK226.out 3).trans rfl, (blk_cell BK227.out 0).trans rfl, (blk_cell BK227.out 1).trans rfl, (blk_cell BK227.out 2).trans rfl, (blk_cell BK227.out 3).trans rfl, ((HB.out.cell (World.block_lt_of_cell? w _ hw234_0)).trans hw234_0), ((HB.out.cell (World.block_lt_of_cell? w _ hw234_1)).trans hw234_1), ((HB.out.cell (World.block_lt_of_cell? w _ hw234_2)).trans hw234_2), ((HB.out.cell (World.block_lt_of_cell? w _ hw235_0)).trans hw235_0), ((HB.out.cell (World.block_lt_of_cell? w _ hw235_1)).trans hw235_1), ((HB.out.cell (World.block_lt_of_cell? w _ hw235_2)).trans hw235_2), ((HB.out.cell (World.block_lt_of_cell? w _ hw236_0)).trans hw236_0), ((HB.out.cell (World.block_lt_of_cell? w _ hw236_1)).trans hw236_1), ((HB.out.cell (World.block_lt_of_cell? w _ hw236_2)).trans hw236_2), ((HB.out.cell (World.block_lt_of_cell? w _ hw237_0)).trans hw237_0), ((HB.out.cell (World.block_lt_of_cell? w _ hw237_1)).trans hw237_1), ((HB.out.cell (World.block_lt_of_cell? w _ hw237_2)).trans hw237_2), ((HB.out.cell (World.block_lt_of_cell? w _ hw238_0)).trans hw238_0), ((HB.out.cell (World.block_lt_of_cell? w _ hw238_1)).trans hw238_1), ((HB.out.cell (World.block_lt_of_cell? w _ hw238_2)).trans hw238_2), ((HB.out.cell (World.block_lt_of_cell? w _ hw239_0)).trans hw239_0), ((HB.out.cell (World.block_lt_of_cell? w _ hw239_1)).trans hw239_1), ((HB.out.cell (World.block_lt_of_cell? w _ hw239_2)).trans hw239_2)⟩ (fun hHeld => ?_); clear hK K; refine norm_ (a' := ?_) ?_ ?_; rotate_left
               ·show Act.put _ (some 122) _ = _
                simp only [Act.put, List.setIfInBounds_toArray, List.set_cons_zero, List.set_cons_succ, i64_w, i32_w]; rfl
               refine pure_ (i := 42) (N := some 123) (v := ?_) (a' := ?_) (bm_ 44 8796093022207) rfl rfl (any_of HT_.out u10_) (fun _ _ _ h => h) (Or.inl ⟨u32_, ?_⟩) ?_ ?_; rotate_left
               ·exact u6_
               rotate_left
               ·exact u0_
               refine pure_ (i := 43) (N := some 124) (v := ?_) (a' := ?_) (bm_ 44 17592186044415) rfl rfl (any_of HT_.out u10_) (fun _ _ _ h => h) (Or.inl ⟨u32_, ?_⟩) ?_ ?_; rotate_left
               ·exact u6_
               rotate_left
               ·exact u0_
               refine done_ (done_of HT_.out u10_) ?_; try go_wp2
               go_ret
               exact ⟨u8_, u11_⟩
             ·rw [if_neg c46] at H; have c46b0 : (((rd_T62 l0_2 x6_3).f1).toList == ((rd_T62 l1_2 x6_3).f1).toList) = false := beq_eq_false_iff_ne.mpr c46; have c46b1 : (((rd_T62 l0_2 x6_3).f1).toList != ((rd_T62 l1_2 x6_3).f1).toList) = true := bne_iff_ne.mpr c46; obtain rfl := Option.some.inj H; have hnb55 := NB226_227.out; have hnc55 := NB227_226.out; have hcz56_0 : wr.cell? ⟨gb226, 0, none⟩ = some (.slice A0_0 l0_0.length c0_0) := (blk_cell BK226.out 0).trans rfl; have hcz56_1 : wr.cell? ⟨gb226, 1, none⟩ = some (.slice A0_1 l0_1.length c0_1) := (blk_cell BK226.out 1).trans rfl; have hcz56_2 : wr.cell? ⟨gb226, 2, none⟩ = some (.slice A0_2 l0_2.length c0_2) := (blk_cell BK226.out 2).trans rfl; have hcz56_3 : wr.cell? ⟨gb226, 3, none⟩ = some (.int .i64 a0_3) := (blk_cell BK226.out 3).trans rfl; have hfz56_0 := blk_frozen BK226.out 0; have hfz56_1 := blk_frozen BK226.out 1; have hfz56_2 := blk_frozen BK226.out 2; have hfz56_3 := blk_frozen BK226.out 3; try go_wp2
              replace BK226 := am_ (blk_drew BK226.out); replace BK227 := am_ (blk_drew BK227.out); replace HB := am_ (below_drew1 HB.out); have p234 : 0 ≤ (x6_3 : Int) := of_decide_eq_true u2_; have q234 : x6_3 < (l0_2.length : Int) := of_decide_eq_true u2_; obtain ⟨ad234, A234_2, c234_2, e234, hx234_0, hx234_1, hx234_2, hl234_2, hi234_2⟩ := at_T62 HR0_2.out x6_3 p234 q234; have hw234_2 := hx234_2; have hw234_1 := hx234_1; have hw234_0 := hx234_0; cases e234; replace hx234_0 := (HB.out.cell (World.block_lt_of_cell? w _ hx234_0)).trans hx234_0; replace hx234_1 := (HB.out.cell (World.block_lt_of_cell? w _ hx234_1)).trans hx234_1; replace hx234_2 := (HB.out.cell (World.block_lt_of_cell? w _ hx234_2)).trans hx234_2; have HR234_2 := am_ hi234_2; have HC234_2 := am_ hl234_2; clear hi234_2 hl234_2; replace p234 := eq_true p234; replace q234 := eq_true q234; have p235 : 0 ≤ (x6_3 : Int) := of_decide_eq_true u2_; have q235 : x6_3 < (l1_2.length : Int) := of_decide_eq_true u2_; obtain ⟨ad235, A235_2, c235_2, e235, hx235_0, hx235_1, hx235_2, hl235_2, hi235_2⟩ := at_T62 HR1_2.out x6_3 p235 q235; have hw235_2 := hx235_2; have hw235_1 := hx235_1; have hw235_0 := hx235_0; cases e235; replace hx235_0 := (HB.out.cell (World.block_lt_of_cell? w _ hx235_0)).trans hx235_0; replace hx235_1 := (HB.out.cell (World.block_lt_of_cell? w _ hx235_1)).trans hx235_1; replace hx235_2 := (HB.out.cell (World.block_lt_of_cell? w _ hx235_2)).trans hx235_2; have HR235_2 := am_ hi235_2; have HC235_2 := am_ hl235_2; clear hi235_2 hl235_2; replace p235 := eq_true p235; replace q235 := eq_true q235; have p236 : 0 ≤ (x6_3 : Int) := of_decide_eq_true u2_; have q236 : x6_3 < (l0_2.length : Int) := of_decide_eq_true u2_; obtain ⟨ad236, A236_2, c236_2, e236, hx236_0, hx236_1, hx236_2, hl236_2, hi236_2⟩ := at_T62 HR0_2.out x6_3 p236 q236; have hw236_2 := hx236_2; have hw236_1 := hx236_1; have hw236_0 := hx236_0; obtain rfl : ad234 = ad236 := (by injection e236); replace hx236_0 := (HB.out.cell (World.block_lt_of_cell? w _ hx236_0)).trans hx236_0; replace hx236_1 := (HB.out.cell (World.block_lt_of_cell? w _ hx236_1)).trans hx236_1; replace hx236_2 := (HB.out.cell (World.block_lt_of_cell? w _ hx236_2)).trans hx236_2; have HR236_2 := am_ hi236_2; have HC236_2 := am_ hl236_2; clear hi236_2 hl236_2; replace p236 := eq_true p236; replace q236 := eq_true q236; have ea_ := Option.some.inj (hx234_2.symm.trans hx236_2); injection ea_ with ea_ en_ ec_
              subst ea_; subst ec_; clear en_; have p237 : 0 ≤ (x6_3 : Int) := of_decide_eq_true u2_; have q237 : x6_3 < (l1_2.length : Int) := of_decide_eq_true u2_; obtain ⟨ad237, A237_2, c237_2, e237, hx237_0, hx237_1, hx237_2, hl237_2, hi237_2⟩ := at_T62 HR1_2.out x6_3 p237 q237; have hw237_2 := hx237_2; have hw237_1 := hx237_1; have hw237_0 := hx237_0; obtain rfl : ad235 = ad237 := (by injection e237); replace hx237_0 := (HB.out.cell (World.block_lt_of_cell? w _ hx237_0)).trans hx237_0; replace hx237_1 := (HB.out.cell (World.block_lt_of_cell? w _ hx237_1)).trans hx237_1; replace hx237_2 := (HB.out.cell (World.block_lt_of_cell? w _ hx237_2)).trans hx237_2; have HR237_2 := am_ hi237_2; have HC237_2 := am_ hl237_2; clear hi237_2 hl237_2; replace p237 := eq_true p237; replace q237 := eq_true q237; have ea_ := Option.some.inj (hx235_2.symm.trans hx237_2); injection ea_ with ea_ en_ ec_
              subst ea_; subst ec_; clear en_; refine start_ (n := 44) (S := fun w' => w'.cell? ⟨gb226, 0, none⟩ = some (.slice A0_0 l0_0.length c0_0) ∧ w'.cell? ⟨gb226, 1, none⟩ = some (.slice A0_1 l0_1.length c0_1) ∧ w'.cell? ⟨gb226, 2, none⟩ = some (.slice (some ad234) l0_2.length c0_2) ∧ w'.cell? ⟨gb226, 3, none⟩ = some (.int .i64 a0_3) ∧ w'.cell? ⟨gb227, 0, none⟩ = some (.slice A1_0 l1_0.length c1_0) ∧ w'.cell? ⟨gb227, 1, none⟩ = some (.slice A1_1 l1_1.length c1_1) ∧ w'.cell? ⟨gb227, 2, none⟩ = some (.slice (some ad235) l1_2.length c1_2) ∧ w'.cell? ⟨gb227, 3, none⟩ = some (.int .i64 a1_3) ∧ w'.cell? (ad234.add ((x6_3).toNat * 3)) = some (.string ((rd_T62 l0_2 x6_3).f0)) ∧ w'.cell? ⟨(ad234.add ((x6_3).toNat * 3)).block, (ad234.add ((x6_3).toNat * 3)).off + 1, none⟩ = some (.string ((rd_T62 l0_2 x6_3).f1)) ∧ w'.cell? ⟨(ad234.add ((x6_3).toNat * 3)).block, (ad234.add ((x6_3).toNat * 3)).off + 2, none⟩ = some (.slice A234_2 ((rd_T62 l0_2 x6_3).f2).length c234_2) ∧ w'.cell? (ad235.add ((x6_3).toNat * 3)) = some (.string ((rd_T62 l1_2 x6_3).f0)) ∧ w'.cell? ⟨(ad235.add ((x6_3).toNat * 3)).block, (ad235.add ((x6_3).toNat * 3)).off + 1, none⟩ = some (.string ((rd_T62 l1_2 x6_3).f1)) ∧ w'.cell? ⟨(ad235.add ((x6_3).toNat * 3)).block, (ad235.add ((x6_3).toNat * 3)).off + 2, none⟩ = some (.slice A235_2 ((rd_T62 l1_2 x6_3).f2).length c235_2) ∧ w'.cell? (ad234.add ((x6_3).toNat * 3)) = some (.string ((rd_T62 l0_2 x6_3).f0)) ∧ w'.cell? ⟨(ad234.add ((x6_3).toNat * 3)).block, (ad234.add ((x6_3).toNat * 3)).off + 1, none⟩ = some (.string ((rd_T62 l0_2 x6_3).f1)) ∧ w'.cell? ⟨(ad234.add ((x6_3).toNat * 3)).block, (ad234.add ((x6_3).toNat * 3)).off + 2, none⟩ = some (.slice A234_2 ((rd_T62 l0_2 x6_3).f2).length c234_2) ∧ w'.cell? (ad235.add ((x6_3).toNat * 3)) = some (.string ((rd_T62 l1_2 x6_3).f0)) ∧ w'.cell? ⟨(ad235.add ((x6_3).toNat * 3)).block, (ad235.add ((x6_3).toNat * 3)).off + 1, none⟩ = some (.string ((rd_T62 l1_2 x6_3).f1)) ∧ w'.cell? ⟨(ad235.add ((x6_3).toNat * 3)).block, (ad235.add ((x6_3).toNat * 3)).off + 2, none⟩ = some (.slice A235_2 ((rd_T62 l1_2 x6_3).f2).length c235_2)) (ds := []) (bm_ 44 0) u10_ rfl rfl ⟨(blk_cell BK226.out 0).trans rfl, (blk_cell BK226.out 1).trans rfl, (blk_cell BK226.out 2).trans rfl, (blk_cell BK226.out 3).trans rfl, (blk_cell BK227.out 0).trans rfl, (blk_cell BK227.out 1).trans rfl, (blk_cell BK227.out 2).trans rfl, (blk_cell BK227.out 3).trans rfl, ((HB.out.cell (World.block_lt_of_cell? w _ hw234_0)).trans hw234_0), ((HB.out.cell (World.block_lt_of_cell? w _ hw234_1)).trans hw234_1), ((HB.out.cell (World.block_lt_of_cell? w _ hw234_2)).trans hw234_2), ((HB.out.cell (World.block_lt_of_cell? w _ hw235_0)).trans hw235_0), ((HB.out.cell (World.block_lt_of_cell? w _ hw235_1)).trans hw235_1), ((HB.out.cell (World.block_lt_of_cell? w _ hw235_2)).trans hw235_2), ((HB.out.cell (World.block_lt_of_cell? w _ hw236_0)).trans hw236_0), ((HB.out.cell (World.block_lt_of_cell? w _ hw236_1)).trans hw236_1), ((HB.out.cell (World.block_lt_of_cell? w _ hw236_2)).trans hw236_2), ((HB.out.cell (World.block_lt_of_cell? w _ hw237_0)).trans hw237_0), ((HB.out.cell (World.block_lt_of_cell? w _ hw237_1)).trans hw237_1), ((HB.out.cell (World.block_lt_of_cell? w _ hw237_2)).trans hw237_2)⟩ (fun hHeld => ?_); refine with_tabW laws_sdIndex.tab11 laws_sdIndex.bits11 (fun HT_ HW_ => ?_); generalize wr.drew = w57 at BK226 BK227 HB HR234_2 HR235_2 HR236_2 HR237_2 hx234_0 hx234_1 hx234_2 hx235_0 hx235_1 hx235_2 hx236_0 hx236_1 hx236_2 hx237_0 hx237_1 hx237_2 hHeld ⊢; refine pure_ (i := 0) (N := some 81) (v := ?_) (a' := ?_) (bm_ 44 1) rfl rfl (any_of HT_.out u10_) (fun _ _ _ h => h) (Or.inl ⟨u32_, ?_⟩) ?_ ?_; rotate_left
              ·exact u6_
              rotate_left
              ·exact u0_
              refine pure_ (i := 2) (N := some 83) (v := ?_) (a' := ?_) (bm_ 44 5) rfl rfl (any_of HT_.out u10_) (fun _ _ _ h => h) (Or.inl ⟨u32_, ?_⟩) ?_ ?_; rotate_left
              ·exact u6_
              rotate_left
              ·exact u0_
              refine pure_ (i := 6) (N := some 87) (v := ?_) (a' := ?_) (bm_ 44 69) rfl rfl (any_of HT_.out u10_) (fun _ _ _ h => h) (Or.inl ⟨u32_, ?_⟩) ?_ ?_; rotate_left
              ·exact u6_
              rotate_left
              ·exact u0_
              refine pure_ (i := 8) (N := some 89) (v := ?_) (a' := ?_) (bm_ 44 325) rfl rfl (any_of HT_.out u10_) (fun _ _ _ h => h) (Or.inl ⟨u32_, ?_⟩) ?_ ?_; rotate_left
              ·exact u6_
              rotate_left
              ·exact u0_
              refine take_ (i := 1) (N := some 82) (v := ?_) (a' := ?_) (bm_ 44 327) rfl rfl (take_ofW HT_.out HW_.out u10_) (fun _ _ _ h => h) (Or.inl ⟨u32_, ?_⟩) hHeld ?_ ?_; rotate_left
              ·exact u12_
              rotate_left
              ·exact u0_
              refine pure_ (i := 3) (N := some 84) (v := ?_) (a' := ?_) (bm_ 44 335) rfl rfl (any_of HT_.out u10_) (fun _ _ _ h => h) (Or.inl ⟨u32_, ?_⟩) ?_ ?_; rotate_left
              ·exact u6_
              rotate_left
              ·exact u0_
              refine pure_ (i := 4) (N := some 85) (v := ?_) (a' := ?_) (bm_ 44 351) rfl rfl (any_of HT_.out u10_) (fun _ _ _ h => h) (Or.inl ⟨u32_, ?_⟩) ?_ ?_; rotate_left
              ·exact u6_
              rotate_left
              ·exact u0_
              refine take_ (i := 5) (N := some 86) (v := ?_) (a' := ?_) (bm_ 44 383) rfl rfl (take_ofW HT_.out HW_.out u10_) (fun _ _ _ h => h) (Or.inl ⟨u32_, ?_⟩) hHeld ?_ ?_; rotate_left
              ·exact u12_
              rotate_left
              ·exact u0_
              refine take_ (i := 7) (N := some 88) (v := ?_) (a' := ?_) (bm_ 44 511) rfl rfl (take_ofW HT_.out HW_.out u10_) (fun _ _ _ h => h) (Or.inl ⟨u32_, ?_⟩) hHeld ?_ ?_; rotate_left
              ·exact u12_
              rotate_left
              ·exact u0_
              refine pure_ (i := 9) (N := some 90) (v := ?_) (a' := ?_) (bm_ 44 1023) rfl rfl (any_of HT_.out u10_) (fun _ _ _ h => h) (Or.inl ⟨u32_, ?_⟩) ?_ ?_; rotate_left
              ·exact u6_
              rotate_left
              ·exact u0_
              refine pure_ (i := 10) (N := some 91) (v := ?_) (a' := ?_) (bm_ 44 2047) rfl rfl (any_of HT_.out u10_) (fun _ _ _ h => h) (Or.inl ⟨u32_, ?_⟩) ?_ ?_; rotate_left
              ·exact u6_
              rotate_left
              ·exact u0_
              refine take_ (i := 11) (N := some 92) (v := ?_) (a' := ?_) (bm_ 44 4095) rfl rfl (take_ofW HT_.out HW_.out u10_) (fun _ _ _ h => h) (Or.inl ⟨u32_, ?_⟩) hHeld ?_ ?_; rotate_left
              ·exact u12_
              rotate_left
              ·exact u0_
              refine pure_ (i := 12) (N := some 93) (v := ?_) (a' := ?_) (bm_ 44 8191) rfl rfl (any_of HT_.out u10_) (fun _ _ _ h => h) (Or.inl ⟨u32_, ?_⟩) ?_ ?_; rotate_left
              ·exact u6_
              rotate_left
              ·exact u0_
              refine pure_ (i := 13) (N := some 94) (v := ?_) (a' := ?_) (bm_ 44 16383) rfl rfl (any_of HT_.out u10_) (fun _ _ _ h => h) (Or.inl ⟨u32_, ?_⟩) ?_ ?_; rotate_left
              ·exact u6_
              rotate_left
              ·exact u0_
              refine pure_ (i := 14) (N := some 95) (v := ?_) (a' := ?_) (bm_ 44 32767) rfl rfl (any_of HT_.out u10_) (fun _ _ _ h => h) (Or.inl ⟨u32_, ?_⟩) ?_ ?_; rotate_left
              ·exact u6_
              rotate_left
              ·exact u0_
              refine pure_ (i := 16) (N := some 97) (v := ?_) (a' := ?_) (bm_ 44 98303) rfl rfl (any_of HT_.out u10_) (fun _ _ _ h => h) (Or.inl ⟨u32_, ?_⟩) ?_ ?_; rotate_left
              ·exact u6_
              rotate_left
              ·exact u0_
              refine pure_ (i := 20) (N := some 101) (v := ?_) (a' := ?_) (bm_ 44 1146879) rfl rfl (any_of HT_.out u10_) (fun _ _ _ h => h) (Or.inl ⟨u32_, ?_⟩) ?_ ?_; rotate_left
              ·exact u6_
              rotate_left
              ·exact u0_
              refine pure_ (i := 22) (N := some 103) (v := ?_) (a' := ?_) (bm_ 44 5341183) rfl rfl (any_of HT_.out u10_) (fun _ _ _ h => h) (Or.inl ⟨u32_, ?_⟩) ?_ ?_; rotate_left
              ·exact u6_
              rotate_left
              ·exact u0_
              refine take_ (i := 15) (N := some 96) (v := ?_) (a' := ?_) (bm_ 44 5373951) rfl rfl (take_ofW HT_.out HW_.out u10_) (fun _ _ _ h => h) (Or.inl ⟨u32_, ?_⟩) hHeld ?_ ?_; rotate_left
              ·exact u12_
              rotate_left
              ·exact u0_
              refine pure_ (i := 17) (N := some 98) (v := ?_) (a' := ?_) (bm_ 44 5505023) rfl rfl (any_of HT_.out u10_) (fun _ _ _ h => h) (Or.inl ⟨u32_, ?_⟩) ?_ ?_; rotate_left
              ·exact u6_
              rotate_left
              ·exact u0_
              refine pure_ (i := 18) (N := some 99) (v := ?_) (a' := ?_) (bm_ 44 5767167) rfl rfl (any_of HT_.out u10_) (fun _ _ _ h => h) (Or.inl ⟨u32_, ?_⟩) ?_ ?_; rotate_left
              ·exact u6_
              rotate_left
              ·exact u0_
              refine take_ (i := 19) (N := some 100) (v := ?_) (a' := ?_) (bm_ 44 6291455) rfl rfl (take_ofW HT_.out HW_.out u10_) (fun _ _ _ h => h) (Or.inl ⟨u32_, ?_⟩) hHeld ?_ ?_; rotate_left
              ·exact u12_
              rotate_left
              ·exact u0_
              refine take_ (i := 21) (N := some 102) (v := ?_) (a' := ?_) (bm_ 44 8388607) rfl rfl (take_ofW HT_.out HW_.out u10_) (fun _ _ _ h => h) (Or.inl ⟨u32_, ?_⟩) hHeld ?_ ?_; rotate_left
              ·exact u12_
              rotate_left
              ·exact u0_
              refine pure_ (i := 23) (N := some 104) (v := ?_) (a' := ?_) (bm_ 44 16777215) rfl rfl (any_of HT_.out u10_) (fun _ _ _ h => h) (Or.inl ⟨u32_, ?_⟩) ?_ ?_; rotate_left
              ·exact u6_
              rotate_left
              ·exact u0_
              refine pure_ (i := 24) (N := some 105) (v := ?_) (a' := ?_) (bm_ 44 33554431) rfl rfl (any_of HT_.out u10_) (fun _ _ _ h => h) (Or.inl ⟨u32_, ?_⟩) ?_ ?_; rotate_left
              ·exact u6_
              rotate_left
              ·exact u0_
              refine take_ (i := 25) (N := some 106) (v := ?_) (a' := ?_) (bm_ 44 67108863) rfl rfl (take_ofW HT_.out HW_.out u10_) (fun _ _ _ h => h) (Or.inl ⟨u32_, ?_⟩) hHeld ?_ ?_; rotate_left
              ·exact u12_
              rotate_left
              ·exact u0_
              refine pure_ (i := 26) (N := some 107) (v := ?_) (a' := ?_) (bm_ 44 134217727) rfl rfl (any_of HT_.out u10_) (fun _ _ _ h => h) (Or.inl ⟨u32_, ?_⟩) ?_ ?_; rotate_left
              ·exact u6_
              rotate_left
              ·exact u0_
              refine pure_ (i := 27) (N := some 108) (v := ?_) (a' := ?_) (bm_ 44 268435455) rfl rfl (any_of HT_.out u10_) (fun _ _ _ h => h) (Or.inl ⟨u32_, ?_⟩) ?_ ?_; rotate_left
              ·exact u6_
              rotate_left
              ·exact u0_
              refine pure_ (i := 28) (N := some 109) (v := ?_) (a' := ?_) (bm_ 44 536870911) rfl rfl (any_of HT_.out u10_) (fun _ _ _ h => h) (Or.inl ⟨u32_, ?_⟩) ?_ ?_; rotate_left
              ·exact u6_
              rotate_left
              ·exact u0_
              refine pure_ (i := 29) (N := some 110) (v := undef) (a' := ?_) (bm_ 44 1073741823) rfl rfl (any_of HT_.out u10_) (fun _ _ _ h => h) (Or.inr ⟨u32_, rfl⟩) ?_ ?_; rotate_left
              ·exact u0_
              refine pure_ (i := 30) (N := some 111) (v := undef) (a' := ?_) (bm_ 44 2147483647) rfl rfl (any_of HT_.out u10_) (fun _ _ _ h => h) (Or.inr ⟨u32_, rfl⟩) ?_ ?_; rotate_left
              ·exact u0_
              refine pure_ (i := 31) (N := some 112) (v := undef) (a' := ?_) (bm_ 44 4294967295) rfl rfl (any_of HT_.out u10_) (fun _ _ _ h => h) (Or.inr ⟨u32_, rfl⟩) ?_ ?_; rotate_left
              ·exact u0_
              refine pure_ (i := 32) (N := some 113) (v := undef) (a' := ?_) (bm_ 44 8589934591) rfl rfl (any_of HT_.out u10_) (fun _ _ _ h => h) (Or.inr ⟨u32_, rfl⟩) ?_ ?_; rotate_left
              ·exact u0_
              refine pure_ (i := 33) (N := some 114) (v := undef) (a' := ?_) (bm_ 44 17179869183) rfl rfl (any_of HT_.out u10_) (fun _ _ _ h => h) (Or.inr ⟨u32_, rfl⟩) ?_ ?_; rotate_left
              ·exact u0_
              refine pure_ (i := 34) (N := some 115) (v := undef) (a' := ?_) (bm_ 44 34359738367) rfl rfl (any_of HT_.out u10_) (fun _ _ _ h => h) (Or.inr ⟨u32_, rfl⟩) ?_ ?_; rotate_left
              ·exact u0_
              refine pure_ (i := 35) (N := some 116) (v := undef) (a' := ?_) (bm_ 44 68719476735) rfl rfl (any_of HT_.out u10_) (fun _ _ _ h => h) (Or.inr ⟨u32_, rfl⟩) ?_ ?_; rotate_left
              ·exact u0_
              refine pure_ (i := 36) (N := some 117) (v := undef) (a' := ?_) (bm_ 44 137438953471) rfl rfl (any_of HT_.out u10_) (fun _ _ _ h => h) (Or.inr ⟨u32_, rfl⟩) ?_ ?_; rotate_left
              ·exact u0_
              refine pure_ (i := 37) (N := some 118) (v := undef) (a' := ?_) (bm_ 44 274877906943) rfl rfl (any_of HT_.out u10_) (fun _ _ _ h => h) (Or.inr ⟨u32_, rfl⟩) ?_ ?_; rotate_left
              ·exact u0_
              refine pure_ (i := 38) (N := some 119) (v := undef) (a' := ?_) (bm_ 44 549755813887) rfl rfl (any_of HT_.out u10_) (fun _ _ _ h => h) (Or.inr ⟨u32_, rfl⟩) ?_ ?_; rotate_left
              ·exact u0_
              refine pure_ (i := 39) (N := some 120) (v := undef) (a' := ?_) (bm_ 44 1099511627775) rfl rfl (any_of HT_.out u10_) (fun _ _ _ h => h) (Or.inr ⟨u32_, rfl⟩) ?_ ?_; rotate_left
              ·exact u0_
              refine pure_ (i := 40) (N := some 121) (v := undef) (a' := ?_) (bm_ 44 2199023255551) rfl rfl (any_of HT_.out u10_) (fun _ _ _ h => h) (Or.inr ⟨u32_, rfl⟩) ?_ ?_; rotate_left
              ·exact u0_
              refine pure_ (i := 41) (N := some 122) (v := undef) (a' := ?_) (bm_ 44 4398046511103) rfl rfl (any_of HT_.out u10_) (fun _ _ _ h => h) (Or.inr ⟨u32_, rfl⟩) ?_ ?_; rotate_left
              ·exact u0_
              refine pure_ (i := 42) (N := some 123) (v := undef) (a' := ?_) (bm_ 44 8796093022207) rfl rfl (any_of HT_.out u10_) (fun _ _ _ h => h) (Or.inr ⟨u32_, rfl⟩) ?_ ?_; rotate_left
              ·exact u0_
              refine pure_ (i := 43) (N := some 124) (v := ?_) (a' := ?_) (bm_ 44 17592186044415) rfl rfl (any_of HT_.out u10_) (fun _ _ _ h => h) (Or.inl ⟨u32_, ?_⟩) ?_ ?_; rotate_left
              ·exact u6_
              rotate_left
              ·exact u0_
              refine done_ (done_of HT_.out u10_) ?_; try go_wp2
              go_ret
              exact ⟨u8_, u11_⟩
            ·rw [if_neg c45] at H; have c45b0 : (((rd_T62 l0_2 x6_3).f0).toList == ((rd_T62 l1_2 x6_3).f0).toList) = false := beq_eq_false_iff_ne.mpr c45; have c45b1 : (((rd_T62 l0_2 x6_3).f0).toList != ((rd_T62 l1_2 x6_3).f0).toList) = true := bne_iff_ne.mpr c45; obtain rfl := Option.some.inj H; have hnb58 := NB226_227.out; have hnc58 := NB227_226.out; have hcz59_0 : wr.cell? ⟨gb226, 0, none⟩ = some (.slice A0_0 l0_0.length c0_0) := (blk_cell BK226.out 0).trans rfl; have hcz59_1 : wr.cell? ⟨gb226, 1, none⟩ = some (.slice A0_1 l0_1.length c0_1) := (blk_cell BK226.out 1).trans rfl; have hcz59_2 : wr.cell? ⟨gb226, 2, none⟩ = some (.slice A0_2 l0_2.length c0_2) := (blk_cell BK226.out 2).trans rfl; have hcz59_3 : wr.cell? ⟨gb226, 3, none⟩ = some (.int .i64 a0_3) := (blk_cell BK226.out 3).trans rfl; have hfz59_0 := blk_frozen BK226.out 0; have hfz59_1 := blk_frozen BK226.out 1; have hfz59_2 := blk_frozen BK226.out 2; have hfz59_3 := blk_frozen BK226.out 3; try go_wp2
             replace BK226 := am_ (blk_drew BK226.out); replace BK227 := am_ (blk_drew BK227.out); replace HB := am_ (below_drew1 HB.out); have p234 : 0 ≤ (x6_3 : Int) := of_decide_eq_true u2_; have q234 : x6_3 < (l0_2.length : Int) := of_decide_eq_true u2_; obtain ⟨ad234, A234_2, c234_2, e234, hx234_0, hx234_1, hx234_2, hl234_2, hi234_2⟩ := at_T62 HR0_2.out x6_3 p234 q234; have hw234_2 := hx234_2; have hw234_1 := hx234_1; have hw234_0 := hx234_0; cases e234; replace hx234_0 := (HB.out.cell (World.block_lt_of_cell? w _ hx234_0)).trans hx234_0; replace hx234_1 := (HB.out.cell (World.block_lt_of_cell? w _ hx234_1)).trans hx234_1; replace hx234_2 := (HB.out.cell (World.block_lt_of_cell? w _ hx234_2)).trans hx234_2; have HR234_2 := am_ hi234_2; have HC234_2 := am_ hl234_2; clear hi234_2 hl234_2; replace p234 := eq_true p234; replace q234 := eq_true q234; have p235 : 0 ≤ (x6_3 : Int) := of_decide_eq_true u2_; have q235 : x6_3 < (l1_2.length : Int) := of_decide_eq_true u2_; obtain ⟨ad235, A235_2, c235_2, e235, hx235_0, hx235_1, hx235_2, hl235_2, hi235_2⟩ := at_T62 HR1_2.out x6_3 p235 q235; have hw235_2 := hx235_2; have hw235_1 := hx235_1; have hw235_0 := hx235_0; cases e235; replace hx235_0 := (HB.out.cell (World.block_lt_of_cell? w _ hx235_0)).trans hx235_0; replace hx235_1 := (HB.out.cell (World.block_lt_of_cell? w _ hx235_1)).trans hx235_1; replace hx235_2 := (HB.out.cell (World.block_lt_of_cell? w _ hx235_2)).trans hx235_2; have HR235_2 := am_ hi235_2; have HC235_2 := am_ hl235_2; clear hi235_2 hl235_2; replace p235 := eq_true p235; replace q235 := eq_true q235; refine start_ (n := 44) (S := fun w' => w'.cell? ⟨gb226, 0, none⟩ = some (.slice A0_0 l0_0.length c0_0) ∧ w'.cell? ⟨gb226, 1, none⟩ = some (.slice A0_1 l0_1.length c0_1) ∧ w'.cell? ⟨gb226, 2, none⟩ = some (.slice (some ad234) l0_2.length c0_2) ∧ w'.cell? ⟨gb226, 3, none⟩ = some (.int .i64 a0_3) ∧ w'.cell? ⟨gb227, 0, none⟩ = some (.slice A1_0 l1_0.length c1_0) ∧ w'.cell? ⟨gb227, 1, none⟩ = some (.slice A1_1 l1_1.length c1_1) ∧ w'.cell? ⟨gb227, 2, none⟩ = some (.slice (some ad235) l1_2.length c1_2) ∧ w'.cell? ⟨gb227, 3, none⟩ = some (.int .i64 a1_3) ∧ w'.cell? (ad234.add ((x6_3).toNat * 3)) = some (.string ((rd_T62 l0_2 x6_3).f0)) ∧ w'.cell? ⟨(ad234.add ((x6_3).toNat * 3)).block, (ad234.add ((x6_3).toNat * 3)).off + 1, none⟩ = some (.string ((rd_T62 l0_2 x6_3).f1)) ∧ w'.cell? ⟨(ad234.add ((x6_3).toNat * 3)).block, (ad234.add ((x6_3).toNat * 3)).off + 2, none⟩ = some (.slice A234_2 ((rd_T62 l0_2 x6_3).f2).length c234_2) ∧ w'.cell? (ad235.add ((x6_3).toNat * 3)) = some (.string ((rd_T62 l1_2 x6_3).f0)) ∧ w'.cell? ⟨(ad235.add ((x6_3).toNat * 3)).block, (ad235.add ((x6_3).toNat * 3)).off + 1, none⟩ = some (.string ((rd_T62 l1_2 x6_3).f1)) ∧ w'.cell? ⟨(ad235.add ((x6_3).toNat * 3)).block, (ad235.add ((x6_3).toNat * 3)).off + 2, none⟩ = some (.slice A235_2 ((rd_T62 l1_2 x6_3).f2).length c235_2)) (ds := []) (bm_ 44 0) u10_ rfl rfl ⟨(blk_cell BK226.out 0).trans rfl, (blk_cell BK226.out 1).trans rfl, (blk_cell BK226.out 2).trans rfl, (blk_cell BK226.out 3).trans rfl, (blk_cell BK227.out 0).trans rfl, (blk_cell BK227.out 1).trans rfl, (blk_cell BK227.out 2).trans rfl, (blk_cell BK227.out 3).trans rfl, ((HB.out.cell (World.block_lt_of_cell? w _ hw234_0)).trans hw234_0), ((HB.out.cell (World.block_lt_of_cell? w _ hw234_1)).trans hw234_1), ((HB.out.cell (World.block_lt_of_cell? w _ hw234_2)).trans hw234_2), ((HB.out.cell (World.block_lt_of_cell? w _ hw235_0)).trans hw235_0), ((HB.out.cell (World.block_lt_of_cell? w _ hw235_1)).trans hw235_1), ((HB.out.cell (World.block_lt_of_cell? w _ hw235_2)).trans hw235_2)⟩ (fun hHeld => ?_); refine with_tabW laws_sdIndex.tab11 laws_sdIndex.bits11 (fun HT_ HW_ => ?_); generalize wr.drew = w60 at BK226 BK227 HB HR234_2 HR235_2 hx234_0 hx234_1 hx234_2 hx235_0 hx235_1 hx235_2 hHeld ⊢; refine pure_ (i := 0) (N := some 81) (v := ?_) (a' := ?_) (bm_ 44 1) rfl rfl (any_of HT_.out u10_) (fun _ _ _ h => h) (Or.inl ⟨u32_, ?_⟩) ?_ ?_; rotate_left
             ·exact u6_
             rotate_left
             ·exact u0_
             refine pure_ (i := 2) (N := some 83) (v := ?_) (a' := ?_) (bm_ 44 5) rfl rfl (any_of HT_.out u10_) (fun _ _ _ h => h) (Or.inl ⟨u32_, ?_⟩) ?_ ?_; rotate_left
             ·exact u6_
             rotate_left
             ·exact u0_
             refine pure_ (i := 6) (N := some 87) (v := ?_) (a' := ?_) (bm_ 44 69) rfl rfl (any_of HT_.out u10_) (fun _ _ _ h => h) (Or.inl ⟨u32_, ?_⟩) ?_ ?_; rotate_left
             ·exact u6_
             rotate_left
             ·exact u0_
             refine pure_ (i := 8) (N := some 89) (v := ?_) (a' := ?_) (bm_ 44 325) rfl rfl (any_of HT_.out u10_) (fun _ _ _ h => h) (Or.inl ⟨u32_, ?_⟩) ?_ ?_; rotate_left
             ·exact u6_
             rotate_left
             ·exact u0_
             refine take_ (i := 1) (N := some 82) (v := ?_) (a' := ?_) (bm_ 44 327) rfl rfl (take_ofW HT_.out HW_.out u10_) (fun _ _ _ h => h) (Or.inl ⟨u32_, ?_⟩) hHeld ?_ ?_; rotate_left
             ·exact u43_
             rotate_left
             ·exact u0_
             refine pure_ (i := 3) (N := some 84) (v := ?_) (a' := ?_) (bm_ 44 335) rfl rfl (any_of HT_.out u10_) (fun _ _ _ h => h) (Or.inl ⟨u32_, ?_⟩) ?_ ?_; rotate_left
             ·exact u6_
             rotate_left
             ·exact u0_
             refine pure_ (i := 4) (N := some 85) (v := ?_) (a' := ?_) (bm_ 44 351) rfl rfl (any_of HT_.out u10_) (fun _ _ _ h => h) (Or.inl ⟨u32_, ?_⟩) ?_ ?_; rotate_left
             ·exact u6_
             rotate_left
             ·exact u0_
             refine take_ (i := 5) (N := some 86) (v := ?_) (a' := ?_) (bm_ 44 383) rfl rfl (take_ofW HT_.out HW_.out u10_) (fun _ _ _ h => h) (Or.inl ⟨u32_, ?_⟩) hHeld ?_ ?_; rotate_left
             ·exact u43_
             rotate_left
             ·exact u0_
             refine take_ (i := 7) (N := some 88) (v := ?_) (a' := ?_) (bm_ 44 511) rfl rfl (take_ofW HT_.out HW_.out u10_) (fun _ _ _ h => h) (Or.inl ⟨u32_, ?_⟩) hHeld ?_ ?_; rotate_left
             ·exact u43_
             rotate_left
             ·exact u0_
             refine pure_ (i := 9) (N := some 90) (v := ?_) (a' := ?_) (bm_ 44 1023) rfl rfl (any_of HT_.out u10_) (fun _ _ _ h => h) (Or.inl ⟨u32_, ?_⟩) ?_ ?_; rotate_left
             ·exact u6_
             rotate_left
             ·exact u0_
             refine pure_ (i := 10) (N := some 91) (v := ?_) (a' := ?_) (bm_ 44 2047) rfl rfl (any_of HT_.out u10_) (fun _ _ _ h => h) (Or.inl ⟨u32_, ?_⟩) ?_ ?_; rotate_left
             ·exact u6_
             rotate_left
             ·exact u0_
             refine take_ (i := 11) (N := some 92) (v := ?_) (a' := ?_) (bm_ 44 4095) rfl rfl (take_ofW HT_.out HW_.out u10_) (fun _ _ _ h => h) (Or.inl ⟨u32_, ?_⟩) hHeld ?_ ?_; rotate_left
             ·exact u43_
             rotate_left
             ·exact u0_
             refine pure_ (i := 12) (N := some 93) (v := ?_) (a' := ?_) (bm_ 44 8191) rfl rfl (any_of HT_.out u10_) (fun _ _ _ h => h) (Or.inl ⟨u32_, ?_⟩) ?_ ?_; rotate_left
             ·exact u6_
             rotate_left
             ·exact u0_
             refine pure_ (i := 13) (N := some 94) (v := ?_) (a' := ?_) (bm_ 44 16383) rfl rfl (any_of HT_.out u10_) (fun _ _ _ h => h) (Or.inl ⟨u32_, ?_⟩) ?_ ?_; rotate_left
             ·exact u6_
             rotate_left
             ·exact u0_
             refine pure_ (i := 14) (N := some 95) (v := undef) (a' := ?_) (bm_ 44 32767) rfl rfl (any_of HT_.out u10_) (fun _ _ _ h => h) (Or.inr ⟨u32_, rfl⟩) ?_ ?_; rotate_left
             ·exact u0_
             refine pure_ (i := 15) (N := some 96) (v := undef) (a' := ?_) (bm_ 44 65535) rfl rfl (any_of HT_.out u10_) (fun _ _ _ h => h) (Or.inr ⟨u32_, rfl⟩) ?_ ?_; rotate_left
             ·exact u0_
             refine pure_ (i := 16) (N := some 97) (v := undef) (a' := ?_) (bm_ 44 131071) rfl rfl (any_of HT_.out u10_) (fun _ _ _ h => h) (Or.inr ⟨u32_, rfl⟩) ?_ ?_; rotate_left
             ·exact u0_
             refine pure_ (i := 17) (N := some 98) (v := undef) (a' := ?_) (bm_ 44 262143) rfl rfl (any_of HT_.out u10_) (fun _ _ _ h => h) (Or.inr ⟨u32_, rfl⟩) ?_ ?_; rotate_left
             ·exact u0_
             refine pure_ (i := 18) (N := some 99) (v := undef) (a' := ?_) (bm_ 44 524287) rfl rfl (any_of HT_.out u10_) (fun _ _ _ h => h) (Or.inr ⟨u32_, rfl⟩) ?_ ?_; rotate_left
             ·exact u0_
             refine pure_ (i := 19) (N := some 100) (v := undef) (a' := ?_) (bm_ 44 1048575) rfl rfl (any_of HT_.out u10_) (fun _ _ _ h => h) (Or.inr ⟨u32_, rfl⟩) ?_ ?_; rotate_left
             ·exact u0_
             refine pure_ (i := 20) (N := some 101) (v := undef) (a' := ?_) (bm_ 44 2097151) rfl rfl (any_of HT_.out u10_) (fun _ _ _ h => h) (Or.inr ⟨u32_, rfl⟩) ?_ ?_; rotate_left
             ·exact u0_
             refine pure_ (i := 21) (N := some 102) (v := undef) (a' := ?_) (bm_ 44 4194303) rfl rfl (any_of HT_.out u10_) (fun _ _ _ h => h) (Or.inr ⟨u32_, rfl⟩) ?_ ?_; rotate_left
             ·exact u0_
             refine pure_ (i := 22) (N := some 103) (v := undef) (a' := ?_) (bm_ 44 8388607) rfl rfl (any_of HT_.out u10_) (fun _ _ _ h => h) (Or.inr ⟨u32_, rfl⟩) ?_ ?_; rotate_left
             ·exact u0_
             refine pure_ (i := 23) (N := some 104) (v := undef) (a' := ?_) (bm_ 44 16777215) rfl rfl (any_of HT_.out u10_) (fun _ _ _ h => h) (Or.inr ⟨u32_, rfl⟩) ?_ ?_; rotate_left
             ·exact u0_
             refine pure_ (i := 24) (N := some 105) (v := undef) (a' := ?_) (bm_ 44 33554431) rfl rfl (any_of HT_.out u10_) (fun _ _ _ h => h) (Or.inr ⟨u32_, rfl⟩) ?_ ?_; rotate_left
             ·exact u0_
             refine pure_ (i := 25) (N := some 106) (v := undef) (a' := ?_) (bm_ 44 67108863) rfl rfl (any_of HT_.out u10_) (fun _ _ _ h => h) (Or.inr ⟨u32_, rfl⟩) ?_ ?_; rotate_left
             ·exact u0_
             refine pure_ (i := 26) (N := some 107) (v := undef) (a' := ?_) (bm_ 44 134217727) rfl rfl (any_of HT_.out u10_) (fun _ _ _ h => h) (Or.inr ⟨u32_, rfl⟩) ?_ ?_; rotate_left
             ·exact u0_
             refine pure_ (i := 27) (N := some 108) (v := ?_) (a' := ?_) (bm_ 44 268435455) rfl rfl (any_of HT_.out u10_) (fun _ _ _ h => h) (Or.inl ⟨u32_, ?_⟩) ?_ ?_; rotate_left
             ·exact u6_
             rotate_left
             ·exact u0_
             refine pure_ (i := 28) (N := some 109) (v := ?_) (a' := ?_) (bm_ 44 536870911) rfl rfl (any_of HT_.out u10_) (fun _ _ _ h => h) (Or.inl ⟨u32_, ?_⟩) ?_ ?_; rotate_left
             ·exact u6_
             rotate_left
             ·exact u0_
             refine pure_ (i := 29) (N := some 110) (v := undef) (a' := ?_) (bm_ 44 1073741823) rfl rfl (any_of HT_.out u10_) (fun _ _ _ h => h) (Or.inr ⟨u32_, rfl⟩) ?_ ?_; rotate_left
             ·exact u0_
             refine pure_ (i := 30) (N := some 111) (v := undef) (a' := ?_) (bm_ 44 2147483647) rfl rfl (any_of HT_.out u10_) (fun _ _ _ h => h) (Or.inr ⟨u32_, rfl⟩) ?_ ?_; rotate_left
             ·exact u0_
             refine pure_ (i := 31) (N := some 112) (v := undef) (a' := ?_) (bm_ 44 4294967295) rfl rfl (any_of HT_.out u10_) (fun _ _ _ h => h) (Or.inr ⟨u32_, rfl⟩) ?_ ?_; rotate_left
             ·exact u0_
             refine pure_ (i := 32) (N := some 113) (v := undef) (a' := ?_) (bm_ 44 8589934591) rfl rfl (any_of HT_.out u10_) (fun _ _ _ h => h) (Or.inr ⟨u32_, rfl⟩) ?_ ?_; rotate_left
             ·exact u0_
             refine pure_ (i := 33) (N := some 114) (v := undef) (a' := ?_) (bm_ 44 17179869183) rfl rfl (any_of HT_.out u10_) (fun _ _ _ h => h) (Or.inr ⟨u32_, rfl⟩) ?_ ?_; rotate_left
             ·exact u0_
             refine pure_ (i := 34) (N := some 115) (v := undef) (a' := ?_) (bm_ 44 34359738367) rfl rfl (any_of HT_.out u10_) (fun _ _ _ h => h) (Or.inr ⟨u32_, rfl⟩) ?_ ?_; rotate_left
             ·exact u0_
             refine pure_ (i := 35) (N := some 116) (v := undef) (a' := ?_) (bm_ 44 68719476735) rfl rfl (any_of HT_.out u10_) (fun _ _ _ h => h) (Or.inr ⟨u32_, rfl⟩) ?_ ?_; rotate_left
             ·exact u0_
             refine pure_ (i := 36) (N := some 117) (v := undef) (a' := ?_) (bm_ 44 137438953471) rfl rfl (any_of HT_.out u10_) (fun _ _ _ h => h) (Or.inr ⟨u32_, rfl⟩) ?_ ?_; rotate_left
             ·exact u0_
             refine pure_ (i := 37) (N := some 118) (v := undef) (a' := ?_) (bm_ 44 274877906943) rfl rfl (any_of HT_.out u10_) (fun _ _ _ h => h) (Or.inr ⟨u32_, rfl⟩) ?_ ?_; rotate_left
             ·exact u0_
             refine pure_ (i := 38) (N := some 119) (v := undef) (a' := ?_) (bm_ 44 549755813887) rfl rfl (any_of HT_.out u10_) (fun _ _ _ h => h) (Or.inr ⟨u32_, rfl⟩) ?_ ?_; rotate_left
             ·exact u0_
             refine pure_ (i := 39) (N := some 120) (v := undef) (a' := ?_) (bm_ 44 1099511627775) rfl rfl (any_of HT_.out u10_) (fun _ _ _ h => h) (Or.inr ⟨u32_, rfl⟩) ?_ ?_; rotate_left
             ·exact u0_
             refine pure_ (i := 40) (N := some 121) (v := undef) (a' := ?_) (bm_ 44 2199023255551) rfl rfl (any_of HT_.out u10_) (fun _ _ _ h => h) (Or.inr ⟨u32_, rfl⟩) ?_ ?_; rotate_left
             ·exact u0_
             refine pure_ (i := 41) (N := some 122) (v := undef) (a' := ?_) (bm_ 44 4398046511103) rfl rfl (any_of HT_.out u10_) (fun _ _ _ h => h) (Or.inr ⟨u32_, rfl⟩) ?_ ?_; rotate_left
             ·exact u0_
             refine pure_ (i := 42) (N := some 123) (v := undef) (a' := ?_) (bm_ 44 8796093022207) rfl rfl (any_of HT_.out u10_) (fun _ _ _ h => h) (Or.inr ⟨u32_, rfl⟩) ?_ ?_; rotate_left
             ·exact u0_
             refine pure_ (i := 43) (N := some 124) (v := ?_) (a' := ?_) (bm_ 44 17592186044415) rfl rfl (any_of HT_.out u10_) (fun _ _ _ h => h) (Or.inl ⟨u32_, ?_⟩) ?_ ?_; rotate_left
             ·exact u6_
             rotate_left
             ·exact u0_
             refine done_ (done_of HT_.out u10_) ?_; try go_wp2
             go_ret
             exact ⟨u8_, u11_⟩
           ·rw [if_neg c44] at H; exact absurd H u65_
          ·rw [if_neg c43] at H; exact absurd H u65_
         ·rw [if_neg c42] at H; have c42b0 : decide (x6_3 < (l0_2.length : Int)) = false := decide_eq_false c42; clear c42; obtain rfl := Option.some.inj H; have hnb61 := NB226_227.out; have hnc61 := NB227_226.out; have hcz62_0 : wr.cell? ⟨gb226, 0, none⟩ = some (.slice A0_0 l0_0.length c0_0) := (blk_cell BK226.out 0).trans rfl; have hcz62_1 : wr.cell? ⟨gb226, 1, none⟩ = some (.slice A0_1 l0_1.length c0_1) := (blk_cell BK226.out 1).trans rfl; have hcz62_2 : wr.cell? ⟨gb226, 2, none⟩ = some (.slice A0_2 l0_2.length c0_2) := (blk_cell BK226.out 2).trans rfl; have hcz62_3 : wr.cell? ⟨gb226, 3, none⟩ = some (.int .i64 a0_3) := (blk_cell BK226.out 3).trans rfl; have hfz62_0 := blk_frozen BK226.out 0; have hfz62_1 := blk_frozen BK226.out 1; have hfz62_2 := blk_frozen BK226.out 2; have hfz62_3 := blk_frozen BK226.out 3; go_wp2; go_ret
          exact ⟨u8_, u11_⟩

end Go.Proofs.YtelcdhjdlgedeaaGreatDoor.PFnIndexNew
