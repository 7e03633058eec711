/- Contracts of Go functions that the law FnExactQueryOk reaches: each is told as a plain Lean function, with the walk that shows it; no condition beyond what each states. Written by a program of this session round the kit's printer. -/
import Derived.Test.YthlabmfecmdlcaaDoorVPFnExactQueryOkx0
import Derived.Test.YthlabmfecmdlcaaDoorVPFnExactQueryOkx6
import Derived.Test.YthlabmfecmdlcaaDoorVPFnExactQueryOkx7
namespace Go.Proofs.YthlabmfecmdlcaaDoor.PFnExactQueryOk
open Go.RowKit Go.Proofs.YthlabmfecmdlcaaDoorW.PrintWords Go.Proofs.YthlabmfecmdlcaaDoorW.PrintLast Go.Proofs.YthlabmfecmdlcaaDoorW.PrintMore
attribute [local go_sem] isSome_setCell run_str_geq run_str_leq max2_int min2_int max_two min_two max_three min_three max_four min_four   -- for this text's walks alone
set_option linter.unusedVariables false
set_option linter.unusedSimpArgs false

/-! ### impl_Query_ok: function 12 -/
mutual
def impl_Query_ok.j0 : Nat → Int → Bool → Bool → Int → Int → ByteArray → ByteArray → Int → Int → List (S29) → Option (Bool)
 | 0, _, _, _, _, _, _, _, _, _, _ => none
 | k + 1, x1, x5, x6, x7, x196000, x196001, x196002, x196003, x196004, x196005 => if x196001.toList = ([] : List UInt8) then (impl_Query_ok.j1 k x1 x5 x6 x7 true x196000 x196001 x196002 x196003 x196004 x196005) else ((impl_NameOk.f k x196001).bind fun t196 => (impl_Query_ok.j1 k x1 x5 x6 x7 t196 x196000 x196001 x196002 x196003 x196004 x196005))
def impl_Query_ok.j1 : Nat → Int → Bool → Bool → Int → Bool → Int → ByteArray → ByteArray → Int → Int → List (S29) → Option (Bool)
 | 0, _, _, _, _, _, _, _, _, _, _, _ => none
 | k + 1, x1, x5, x6, x7, x8, x196000, x196001, x196002, x196003, x196004, x196005 => if x196000 = 1 then (if x196001.toList = ([] : List UInt8) then (if x5 = true then (some false) else (if x6 = true then (some false) else (some (x7 == 0)))) else (some false)) else (if x196000 = 2 then (if x8 = true then ((impl_wordsOk.f k x196002 1 1).bind fun t197 => (if t197 = true then ((impl_Stem.f k x196002).bind fun t198 => (if t198.toList = ([] : List UInt8) then (some false) else (if x6 = true then (some false) else (some (x7 == 0))))) else (some false))) else (some false)) else (if x196000 = 3 then (if x8 = true then ((impl_wordsOk.f k x196002 2 4).bind fun t199 => (if t199 = true then (if x6 = true then (some false) else (some (x7 == 0))) else (some false))) else (some false)) else (if x196000 = 4 then (if x8 = true then ((impl_isWord.f k x196002).bind fun t200 => (if t200 = true then (if (x196002.size : Int) ≤ 12 then ((impl_Fold.f x196002).bind fun t201 => (if t201.toList = x196002.toList then (if x6 = true then (some false) else (some (x7 == 0))) else (some false))) else (some false)) else (some false))) else (some false)) else (if x196000 = 5 then ((impl_NameOk.f k x196001).bind fun t202 => (if t202 = true then (if x5 = true then (some false) else ((impl_within.f x196003 (-999999999) 999999999).bind fun t203 => (if t203 = true then ((impl_within.f x196004 (-999999999) 999999999).bind fun t204 => (if t204 = true then (some (x7 == 0)) else (some false))) else (some false)))) else (some false))) else (if x196000 = 6 then ((impl_NameOk.f k x196001).bind fun t205 => (if t205 = true then ((impl_NameOk.f k x196002).bind fun t206 => (if t206 = true then (if x6 = true then (some false) else (some (x7 == 0))) else (some false))) else (some false))) else (if x196000 = 7 then (impl_Query_ok.j2 k x1 x5 x6 x7 x196000 (x196000 == 7) x196000 x196001 x196002 x196003 x196004 x196005) else (impl_Query_ok.j2 k x1 x5 x6 x7 x196000 (x196000 == 8) x196000 x196001 x196002 x196003 x196004 x196005)))))))
def impl_Query_ok.j3 : Nat → Int → Bool → Bool → Int → ByteArray → ByteArray → Int → Int → List (S29) → Option (Bool)
 | 0, _, _, _, _, _, _, _, _, _ => none
 | k + 1, x1, x5, x6, x196000, x196001, x196002, x196003, x196004, x196005 => if x196001.toList = ([] : List UInt8) then (if x5 = true then (impl_Query_ok.j4 k x1 true x196000 x196001 x196002 x196003 x196004 x196005) else (impl_Query_ok.j4 k x1 x6 x196000 x196001 x196002 x196003 x196004 x196005)) else (impl_Query_ok.j4 k x1 true x196000 x196001 x196002 x196003 x196004 x196005)
def impl_Query_ok.j4 : Nat → Int → Bool → Int → ByteArray → ByteArray → Int → Int → List (S29) → Option (Bool)
 | 0, _, _, _, _, _, _, _, _ => none
 | k + 1, x1, x181, x196000, x196001, x196002, x196003, x196004, x196005 => if x181 = true then (some false) else (impl_Query_ok.l0 k x1 x196005 (x196005.length : Int) 0)
def impl_Query_ok.l0 : Nat → Int → List (S29) → Int → Int → Option (Bool)
 | 0, _, _, _, _ => none
 | k + 1, x1, x183, x184, x185 => if x185 < x184 then (if 0 ≤ x185 then (if x185 < (x183.length : Int) then ((impl_Query_ok.f k ((rd_T29 x183 x185).f0) ((rd_T29 x183 x185).f1) ((rd_T29 x183 x185).f2) ((rd_T29 x183 x185).f3) ((rd_T29 x183 x185).f4) ((rd_T29 x183 x185).f5) (wrap64 (x1 + 1))).bind fun t210 => (if t210 = true then (impl_Query_ok.l0 k x1 x183 x184 (wrap64 (x185 + 1))) else (some false))) else (none)) else (none)) else (some true)
def impl_Query_ok.j2 : Nat → Int → Bool → Bool → Int → Int → Bool → Int → ByteArray → ByteArray → Int → Int → List (S29) → Option (Bool)
 | 0, _, _, _, _, _, _, _, _, _, _, _, _ => none
 | k + 1, x1, x5, x6, x7, x36, x163, x196000, x196001, x196002, x196003, x196004, x196005 => if x163 = true then ((impl_within.f x7 2 4).bind fun t207 => (if t207 = true then (impl_Query_ok.j3 k x1 x5 x6 x196000 x196001 x196002 x196003 x196004 x196005) else (some false))) else (if x36 = 9 then (if x7 = 1 then (impl_Query_ok.j3 k x1 x5 x6 x196000 x196001 x196002 x196003 x196004 x196005) else (some false)) else (some false))
def impl_Query_ok.f : Nat → Int → ByteArray → ByteArray → Int → Int → List (S29) → Int → Option (Bool)
 | 0, _, _, _, _, _, _, _ => none
 | k + 1, a0_0, a0_1, a0_2, a0_3, a0_4, l0_5, a1 => if a1 > 4 then (some false) else (if a0_3 = 0 then (impl_Query_ok.j0 k a1 (a0_2.toList != ([] : List UInt8)) (a0_4 != 0) (l0_5.length : Int) a0_0 a0_1 a0_2 a0_3 a0_4 l0_5) else (impl_Query_ok.j0 k a1 (a0_2.toList != ([] : List UInt8)) true (l0_5.length : Int) a0_0 a0_1 a0_2 a0_3 a0_4 l0_5))
end
theorem impl_Query_ok.mono_l : ∀ k, (∀ y0 y1 y2 y3 y4 y5 y6, LeO (impl_Query_ok.f k y0 y1 y2 y3 y4 y5 y6) (impl_Query_ok.f (k + 1) y0 y1 y2 y3 y4 y5 y6)) ∧ (∀ y0 y1 y2 y3 y4 y5 y6 y7 y8 y9, LeO (impl_Query_ok.j0 k y0 y1 y2 y3 y4 y5 y6 y7 y8 y9) (impl_Query_ok.j0 (k + 1) y0 y1 y2 y3 y4 y5 y6 y7 y8 y9)) ∧ (∀ y0 y1 y2 y3 y4 y5 y6 y7 y8 y9 y10, LeO (impl_Query_ok.j1 k y0 y1 y2 y3 y4 y5 y6 y7 y8 y9 y10) (impl_Query_ok.j1 (k + 1) y0 y1 y2 y3 y4 y5 y6 y7 y8 y9 y10)) ∧ (∀ y0 y1 y2 y3 y4 y5 y6 y7 y8, LeO (impl_Query_ok.j3 k y0 y1 y2 y3 y4 y5 y6 y7 y8) (impl_Query_ok.j3 (k + 1) y0 y1 y2 y3 y4 y5 y6 y7 y8)) ∧ (∀ y0 y1 y2 y3 y4 y5 y6 y7, LeO (impl_Query_ok.j4 k y0 y1 y2 y3 y4 y5 y6 y7) (impl_Query_ok.j4 (k + 1) y0 y1 y2 y3 y4 y5 y6 y7)) ∧ (∀ y0 y1 y2 y3, LeO (impl_Query_ok.l0 k y0 y1 y2 y3) (impl_Query_ok.l0 (k + 1) y0 y1 y2 y3)) ∧ (∀ y0 y1 y2 y3 y4 y5 y6 y7 y8 y9 y10 y11, LeO (impl_Query_ok.j2 k y0 y1 y2 y3 y4 y5 y6 y7 y8 y9 y10 y11) (impl_Query_ok.j2 (k + 1) y0 y1 y2 y3 y4 y5 y6 y7 y8 y9 y10 y11))
 | 0 => ⟨fun _ _ _ _ _ _ _ r h => by simp [impl_Query_ok.f] at h, fun _ _ _ _ _ _ _ _ _ _ r h => by simp [impl_Query_ok.j0] at h, fun _ _ _ _ _ _ _ _ _ _ _ r h => by simp [impl_Query_ok.j1] at h, fun _ _ _ _ _ _ _ _ _ r h => by simp [impl_Query_ok.j3] at h, fun _ _ _ _ _ _ _ _ r h => by simp [impl_Query_ok.j4] at h, fun _ _ _ _ r h => by simp [impl_Query_ok.l0] at h, fun _ _ _ _ _ _ _ _ _ _ _ _ r h => by simp [impl_Query_ok.j2] at h⟩
 | k + 1 => by
  obtain ⟨ih0, ih1, ih2, ih3, ih4, ih5, ih6⟩ := impl_Query_ok.mono_l k; refine ⟨?_, ?_, ?_, ?_, ?_, ?_, ?_⟩
  ·intro y0 y1 y2 y3 y4 y5 y6; unfold impl_Query_ok.f
   repeat' first
   | (with_reducible exact ih0 _ _ _ _ _ _ _)
   | (with_reducible exact ih1 _ _ _ _ _ _ _ _ _ _)
   | (with_reducible exact ih2 _ _ _ _ _ _ _ _ _ _ _)
   | (with_reducible exact ih3 _ _ _ _ _ _ _ _ _)
   | (with_reducible exact ih4 _ _ _ _ _ _ _ _)
   | (with_reducible exact ih5 _ _ _ _)
   | (with_reducible exact ih6 _ _ _ _ _ _ _ _ _ _ _ _)
   | (with_reducible exact impl_NameOk.mono _ _)
   | (with_reducible exact impl_Stem.mono _ _)
   | (with_reducible exact impl_isWord.mono _ _)
   | (with_reducible exact impl_wordsOk.mono _ _ _ _)
   | (with_reducible exact LeO.refl _)
   | (with_reducible exact LeO.none _)
   | (with_reducible refine LeO.ite ?_ ?_)
   | (with_reducible refine LeO.bind ?_ (fun _ => ?_))
   | exact ih0 _ _ _ _ _ _ _
   | exact ih1 _ _ _ _ _ _ _ _ _ _
   | exact ih2 _ _ _ _ _ _ _ _ _ _ _
   | exact ih3 _ _ _ _ _ _ _ _ _
   | exact ih4 _ _ _ _ _ _ _ _
   | exact ih5 _ _ _ _
   | exact ih6 _ _ _ _ _ _ _ _ _ _ _ _
   | exact impl_NameOk.mono _ _
   | exact impl_Stem.mono _ _
   | exact impl_isWord.mono _ _
   | exact impl_wordsOk.mono _ _ _ _
   | exact LeO.none _
   | refine LeO.ite ?_ ?_
   | refine LeO.bind ?_ (fun _ => ?_)
  ·intro y0 y1 y2 y3 y4 y5 y6 y7 y8 y9; unfold impl_Query_ok.j0
   repeat' first
   | (with_reducible exact ih0 _ _ _ _ _ _ _)
   | (with_reducible exact ih1 _ _ _ _ _ _ _ _ _ _)
   | (with_reducible exact ih2 _ _ _ _ _ _ _ _ _ _ _)
   | (with_reducible exact ih3 _ _ _ _ _ _ _ _ _)
   | (with_reducible exact ih4 _ _ _ _ _ _ _ _)
   | (with_reducible exact ih5 _ _ _ _)
   | (with_reducible exact ih6 _ _ _ _ _ _ _ _ _ _ _ _)
   | (with_reducible exact impl_NameOk.mono _ _)
   | (with_reducible exact impl_Stem.mono _ _)
   | (with_reducible exact impl_isWord.mono _ _)
   | (with_reducible exact impl_wordsOk.mono _ _ _ _)
   | (with_reducible exact LeO.refl _)
   | (with_reducible exact LeO.none _)
   | (with_reducible refine LeO.ite ?_ ?_)
   | (with_reducible refine LeO.bind ?_ (fun _ => ?_))
   | exact ih0 _ _ _ _ _ _ _
   | exact ih1 _ _ _ _ _ _ _ _ _ _
   | exact ih2 _ _ _ _ _ _ _ _ _ _ _
   | exact ih3 _ _ _ _ _ _ _ _ _
   | exact ih4 _ _ _ _ _ _ _ _
   | exact ih5 _ _ _ _
   | exact ih6 _ _ _ _ _ _ _ _ _ _ _ _
   | exact impl_NameOk.mono _ _
   | exact impl_Stem.mono _ _
   | exact impl_isWord.mono _ _
   | exact impl_wordsOk.mono _ _ _ _
   | exact LeO.none _
   | refine LeO.ite ?_ ?_
   | refine LeO.bind ?_ (fun _ => ?_)
  ·intro y0 y1 y2 y3 y4 y5 y6 y7 y8 y9 y10; unfold impl_Query_ok.j1
   repeat' first
   | (with_reducible exact ih0 _ _ _ _ _ _ _)
   | (with_reducible exact ih1 _ _ _ _ _ _ _ _ _ _)
   | (with_reducible exact ih2 _ _ _ _ _ _ _ _ _ _ _)
   | (with_reducible exact ih3 _ _ _ _ _ _ _ _ _)
   | (with_reducible exact ih4 _ _ _ _ _ _ _ _)
   | (with_reducible exact ih5 _ _ _ _)
   | (with_reducible exact ih6 _ _ _ _ _ _ _ _ _ _ _ _)
   | (with_reducible exact impl_NameOk.mono _ _)
   | (with_reducible exact impl_Stem.mono _ _)
   | (with_reducible exact impl_isWord.mono _ _)
   | (with_reducible exact impl_wordsOk.mono _ _ _ _)
   | (with_reducible exact LeO.refl _)
   | (with_reducible exact LeO.none _)
   | (with_reducible refine LeO.ite ?_ ?_)
   | (with_reducible refine LeO.bind ?_ (fun _ => ?_))
   | exact ih0 _ _ _ _ _ _ _
   | exact ih1 _ _ _ _ _ _ _ _ _ _
   | exact ih2 _ _ _ _ _ _ _ _ _ _ _
   | exact ih3 _ _ _ _ _ _ _ _ _
   | exact ih4 _ _ _ _ _ _ _ _
   | exact ih5 _ _ _ _
   | exact ih6 _ _ _ _ _ _ _ _ _ _ _ _
   | exact impl_NameOk.mono _ _
   | exact impl_Stem.mono _ _
   | exact impl_isWord.mono _ _
   | exact impl_wordsOk.mono _ _ _ _
   | exact LeO.none _
   | refine LeO.ite ?_ ?_
   | refine LeO.bind ?_ (fun _ => ?_)
  ·intro y0 y1 y2 y3 y4 y5 y6 y7 y8; unfold impl_Query_ok.j3
   repeat' first
   | (with_reducible exact ih0 _ _ _ _ _ _ _)
   | (with_reducible exact ih1 _ _ _ _ _ _ _ _ _ _)
   | (with_reducible exact ih2 _ _ _ _ _ _ _ _ _ _ _)
   | (with_reducible exact ih3 _ _ _ _ _ _ _ _ _)
   | (with_reducible exact ih4 _ _ _ _ _ _ _ _)
   | (with_reducible exact ih5 _ _ _ _)
   | (with_reducible exact ih6 _ _ _ _ _ _ _ _ _ _ _ _)
   | (with_reducible exact impl_NameOk.mono _ _)
   | (with_reducible exact impl_Stem.mono _ _)
   | (with_reducible exact impl_isWord.mono _ _)
   | (with_reducible exact impl_wordsOk.mono _ _ _ _)
   | (with_reducible exact LeO.refl _)
   | (with_reducible exact LeO.none _)
   | (with_reducible refine LeO.ite ?_ ?_)
   | (with_reducible refine LeO.bind ?_ (fun _ => ?_))
   | exact ih0 _ _ _ _ _ _ _
   | exact ih1 _ _ _ _ _ _ _ _ _ _
   | exact ih2 _ _ _ _ _ _ _ _ _ _ _
   | exact ih3 _ _ _ _ _ _ _ _ _
   | exact ih4 _ _ _ _ _ _ _ _
   | exact ih5 _ _ _ _
   | exact ih6 _ _ _ _ _ _ _ _ _ _ _ _
   | exact impl_NameOk.mono _ _
   | exact impl_Stem.mono _ _
   | exact impl_isWord.mono _ _
   | exact impl_wordsOk.mono _ _ _ _
   | exact LeO.none _
   | refine LeO.ite ?_ ?_
   | refine LeO.bind ?_ (fun _ => ?_)
  ·intro y0 y1 y2 y3 y4 y5 y6 y7; unfold impl_Query_ok.j4
   repeat' first
   | (with_reducible exact ih0 _ _ _ _ _ _ _)
   | (with_reducible exact ih1 _ _ _ _ _ _ _ _ _ _)
   | (with_reducible exact ih2 _ _ _ _ _ _ _ _ _ _ _)
   | (with_reducible exact ih3 _ _ _ _ _ _ _ _ _)
   | (with_reducible exact ih4 _ _ _ _ _ _ _ _)
   | (with_reducible exact ih5 _ _ _ _)
   | (with_reducible exact ih6 _ _ _ _ _ _ _ _ _ _ _ _)
   | (with_reducible exact impl_NameOk.mono _ _)
   | (with_reducible exact impl_Stem.mono _ _)
   | (with_reducible exact impl_isWord.mono _ _)
   | (with_reducible exact impl_wordsOk.mono _ _ _ _)
   | (with_reducible exact LeO.refl _)
   | (with_reducible exact LeO.none _)
   | (with_reducible refine LeO.ite ?_ ?_)
   | (with_reducible refine LeO.bind ?_ (fun _ => ?_))
   | exact ih0 _ _ _ _ _ _ _
   | exact ih1 _ _ _ _ _ _ _ _ _ _
   | exact ih2 _ _ _ _ _ _ _ _ _ _ _
   | exact ih3 _ _ _ _ _ _ _ _ _
   | exact ih4 _ _ _ _ _ _ _ _
   | exact ih5 _ _ _ _
   | exact ih6 _ _ _ _ _ _ _ _ _ _ _ _
   | exact impl_NameOk.mono _ _
   | exact impl_Stem.mono _ _
   | exact impl_isWord.mono _ _
   | exact impl_wordsOk.mono _ _ _ _
   | exact LeO.none _
   | refine LeO.ite ?_ ?_
   | refine LeO.bind ?_ (fun _ => ?_)
  ·intro y0 y1 y2 y3; unfold impl_Query_ok.l0
   repeat' first
   | (with_reducible exact ih0 _ _ _ _ _ _ _)
   | (with_reducible exact ih1 _ _ _ _ _ _ _ _ _ _)
   | (with_reducible exact ih2 _ _ _ _ _ _ _ _ _ _ _)
   | (with_reducible exact ih3 _ _ _ _ _ _ _ _ _)
   | (with_reducible exact ih4 _ _ _ _ _ _ _ _)
   | (with_reducible exact ih5 _ _ _ _)
   | (with_reducible exact ih6 _ _ _ _ _ _ _ _ _ _ _ _)
   | (with_reducible exact impl_NameOk.mono _ _)
   | (with_reducible exact impl_Stem.mono _ _)
   | (with_reducible exact impl_isWord.mono _ _)
   | (with_reducible exact impl_wordsOk.mono _ _ _ _)
   | (with_reducible exact LeO.refl _)
   | (with_reducible exact LeO.none _)
   | (with_reducible refine LeO.ite ?_ ?_)
   | (with_reducible refine LeO.bind ?_ (fun _ => ?_))
   | exact ih0 _ _ _ _ _ _ _
   | exact ih1 _ _ _ _ _ _ _ _ _ _
   | exact ih2 _ _ _ _ _ _ _ _ _ _ _
   | exact ih3 _ _ _ _ _ _ _ _ _
   | exact ih4 _ _ _ _ _ _ _ _
   | exact ih5 _ _ _ _
   | exact ih6 _ _ _ _ _ _ _ _ _ _ _ _
   | exact impl_NameOk.mono _ _
   | exact impl_Stem.mono _ _
   | exact impl_isWord.mono _ _
   | exact impl_wordsOk.mono _ _ _ _
   | exact LeO.none _
   | refine LeO.ite ?_ ?_
   | refine LeO.bind ?_ (fun _ => ?_)
  ·intro y0 y1 y2 y3 y4 y5 y6 y7 y8 y9 y10 y11; unfold impl_Query_ok.j2
   repeat' first
   | (with_reducible exact ih0 _ _ _ _ _ _ _)
   | (with_reducible exact ih1 _ _ _ _ _ _ _ _ _ _)
   | (with_reducible exact ih2 _ _ _ _ _ _ _ _ _ _ _)
   | (with_reducible exact ih3 _ _ _ _ _ _ _ _ _)
   | (with_reducible exact ih4 _ _ _ _ _ _ _ _)
   | (with_reducible exact ih5 _ _ _ _)
   | (with_reducible exact ih6 _ _ _ _ _ _ _ _ _ _ _ _)
   | (with_reducible exact impl_NameOk.mono _ _)
   | (with_reducible exact impl_Stem.mono _ _)
   | (with_reducible exact impl_isWord.mono _ _)
   | (with_reducible exact impl_wordsOk.mono _ _ _ _)
   | (with_reducible exact LeO.refl _)
   | (with_reducible exact LeO.none _)
   | (with_reducible refine LeO.ite ?_ ?_)
   | (with_reducible refine LeO.bind ?_ (fun _ => ?_))
   | exact ih0 _ _ _ _ _ _ _
   | exact ih1 _ _ _ _ _ _ _ _ _ _
   | exact ih2 _ _ _ _ _ _ _ _ _ _ _
   | exact ih3 _ _ _ _ _ _ _ _ _
   | exact ih4 _ _ _ _ _ _ _ _
   | exact ih5 _ _ _ _
   | exact ih6 _ _ _ _ _ _ _ _ _ _ _ _
   | exact impl_NameOk.mono _ _
   | exact impl_Stem.mono _ _
   | exact impl_isWord.mono _ _
   | exact impl_wordsOk.mono _ _ _ _
   | exact LeO.none _
   | refine LeO.ite ?_ ?_
   | refine LeO.bind ?_ (fun _ => ?_)
theorem impl_Query_ok.mono : ∀ a0 a1 a2 a3 a4 a5 a6 k, LeO (impl_Query_ok.f k a0 a1 a2 a3 a4 a5 a6) (impl_Query_ok.f (k + 1) a0 a1 a2 a3 a4 a5 a6) := by
 intro a0 a1 a2 a3 a4 a5 a6 k; obtain ⟨ih0, ih1, ih2, ih3, ih4, ih5, ih6⟩ := impl_Query_ok.mono_l k; exact ih0 a0 a1 a2 a3 a4 a5 a6
def impl_Query_ok.T3 : Bool × List (List Nat × List Nat) := (true, [([], []), ([0], [0]), ([1], [1]), ([], []), ([3], [3]), ([4], [4]), ([5], [5]), ([6], [6]), ([7, 6], [6, 7]), ([8, 6], [6, 8]), ([6, 9], [6, 9]), ([], []), ([11], [11]), ([12], [12]), ([2, 6, 0, 1, 2], [2]), ([10, 14, 0, 1, 2, 3, 4, 5, 6, 7, 8, 9, 10, 14], [10]), ([13, 15, 0, 1, 2, 3, 4, 5, 6, 7, 8, 9, 10, 11, 12, 13, 14, 15], [13])])
def impl_Query_ok.B3 : List Nat := [0, 1, 3, 0, 8, 24, 56, 120, 248, 504, 1016, 0, 2048, 6144, 127, 18431, 65535]
theorem impl_Query_ok.tab3 : rtab .any (opsOf Tryd.f12 3) = impl_Query_ok.T3 := by kernel_rfl
theorem impl_Query_ok.bits3 : waitsOk impl_Query_ok.T3.2 impl_Query_ok.B3 = true := by kernel_rfl
def impl_Query_ok.T14 : Bool × List (List Nat × List Nat) := (true, [([], []), ([0], [0]), ([1], [1]), ([2, 1], [1, 2]), ([3, 1, 1], [1, 3]), ([1, 4], [1, 4]), ([5, 4], [5]), ([6], [6]), ([7, 6], [6, 7]), ([8, 6], [6, 8]), ([9, 6], [6, 9]), ([6, 10], [6, 10]), ([11, 6], [11]), ([12], [12]), ([13, 12], [12, 13]), ([14, 12, 12], [12, 14]), ([12], [12]), ([16, 12], [12, 16]), ([15, 17, 12], [12, 15, 17]), ([12, 18], [12, 18]), ([19, 15], [19]), ([20], [20]), ([21, 20], [20, 21]), ([20, 22], [20, 22]), ([23, 20], [23]), ([24], [24]), ([25, 24], [24, 25]), ([24, 26], [24, 26]), ([27, 24, 0, 1, 2, 3, 4, 5, 6, 7, 8, 9, 10, 11, 12, 13, 14, 15, 16, 17, 18, 19, 20, 21, 22, 23, 24, 25, 26, 27], [27])])
def impl_Query_ok.B14 : List Nat := [0, 1, 3, 7, 15, 31, 63, 127, 255, 511, 1023, 2047, 4095, 8191, 16383, 32767, 8191, 73727, 262143, 524287, 1048575, 2097151, 4194303, 8388607, 16777215, 33554431, 67108863, 134217727, 268435455]
theorem impl_Query_ok.tab14 : rtab .any (opsOf Tryd.f12 14) = impl_Query_ok.T14 := by kernel_rfl
theorem impl_Query_ok.bits14 : waitsOk impl_Query_ok.T14.2 impl_Query_ok.B14 = true := by kernel_rfl
abbrev impl_Query_ok.Stmt (k : Nat) : Prop := ∀ (a0_0 : Int) (a0_1 : ByteArray) (a0_2 : ByteArray) (a0_3 : Int) (a0_4 : Int) (A0_5 : Option Addr) (c0_5 : Nat) (l0_5 : List (S29)) (a1 : Int) (r : Bool) (w : World) (hG : StopsIn w) (hr0_5 : Kd.C k29 w A0_5 l0_5.length l0_5) (hc0_5 : l0_5.length ≤ c0_5) (h : impl_Query_ok.f k a0_0 a0_1 a0_2 a0_3 a0_4 l0_5 a1 = some r),
  Calls Tryd.prog 12 #[.agg #[.int .i64 a0_0, .string a0_1, .string a0_2, .int .i64 a0_3, .int .i64 a0_4, .slice A0_5 l0_5.length c0_5], .int .i64 a1] w fun e w' => e = .returned (.bool r) ∧ Below w.heap.size w w'
end Go.Proofs.YthlabmfecmdlcaaDoor.PFnExactQueryOk
