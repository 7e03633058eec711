/- What the row's condition on package variables and the world's shape give a walk; no condition of its own. -/
import Derived.Test.YtelcdhjdlgedeaaDoorRows
import Derived.Test.YtelcdhjdlgedeaaDoorVStopsTME
import Derived.Test.YtelcdhjdlgedeaaDoorVHanded2
import Derived.MakeChecks
import Derived.LaidMore
import Derived.LaidHandle
import Derived.LaidLaws
import Derived.RowKit
import Derived.Shelf.Vars
import Derived.Lib.LaidTab
import Derived.Lib.ItoaNum
namespace Go.Proofs.YtelcdhjdlgedeaaDoor.Laid
open Go Go.RowKit Go.Proofs.YtelcdhjdlgedeaaDoorW.PrintWords Go.Proofs.YtelcdhjdlgedeaaDoorW.PrintMore
abbrev listL : List (String × DataW Unit) := [("math/bits.deBruijn32tab", Rows.laid_math_bits_deBruijn32tab), ("math/bits.deBruijn64tab", Rows.laid_math_bits_deBruijn64tab), ("internal/strconv.uint64pow10", Rows.laid_internal_strconv_uint64pow10), ("unicode/utf8.acceptRanges", Rows.laid_unicode_utf8_acceptRanges), ("strconv.ErrRange", Rows.laid_strconv_ErrRange), ("strconv.ErrSyntax", Rows.laid_strconv_ErrSyntax), ("unicode/utf8.first", Rows.laid_unicode_utf8_first)]
/-- What one variable of the list reads as. -/
theorem reads_of {w : World} : ∀ {l : List (String × DataW Unit)} {ps : List MemPlace}, DataW.LaidVars Tryd.prog w l ps → ∀ n d, (n, d) ∈ l →
    ∃ g t cs fuel p, Tryd.prog.globalNamed n = some g ∧ (Tryd.prog.globals[g]?).map (·.type) = some t ∧ w.var? Tryd.prog n = some cs ∧ DataW.trod (fun _ => ()) Tryd.prog w 0 (fun _ => true) false fuel t cs.toList = some (d, p)
  | [], _, _, _, _, hm => by cases hm
  | (n1, d1) :: r, ps, h, n, d, hm => by
    obtain ⟨g, t, cs, fuel, p, q, h1, h2, h3, h4, h5, _⟩ := h
    rcases List.mem_cons.1 hm with e | e
    · cases e
      exact ⟨g, t, cs, fuel, p, h1, h2, h3, h4⟩
    · exact reads_of h5 n d e
theorem gTen : Tryd.prog.globalNamed "internal/strconv.uint64pow10" = some 3 := by kernel_rfl
theorem tTen : (Tryd.prog.globals[3]?).map (·.type) = some 150 := by kernel_rfl
theorem tenData : (Rows.laid_internal_strconv_uint64pow10 : DataW Unit) = Lib.tabData .u64 Lib.pow10Tab := by rfl
theorem gErrSyntax : Tryd.prog.globalNamed "strconv.ErrSyntax" = some 0 := by kernel_rfl
theorem tErrSyntax : (Tryd.prog.globals[0]?).map (·.type) = some 78 := by kernel_rfl
theorem gErrRange : Tryd.prog.globalNamed "strconv.ErrRange" = some 1 := by kernel_rfl
theorem tErrRange : (Tryd.prog.globals[1]?).map (·.type) = some 78 := by kernel_rfl
set_option maxRecDepth 100000 in
theorem glob_of_laid {W : World} (hs : W.ShapedOpen Tryd.prog) (h : laidMetH Tryd.prog listL W) : StopsIn W := by
  rw [MakeChecks.laidMetH_plain _ _ _ (by kernel_rfl)] at h
  obtain ⟨ps, hV, _⟩ := h
  refine ⟨?_, ?_, ?_⟩
  · obtain ⟨g, t, cs, fuel, p, hg, hty, hvar, hd⟩ := reads_of hV "internal/strconv.uint64pow10" Rows.laid_internal_strconv_uint64pow10 (by simp [listL])
    obtain rfl := Option.some.inj (gTen.symm.trans hg)
    obtain rfl := Option.some.inj (tTen.symm.trans hty)
    rw [tenData] at hd
    have hcs := Lib.cells_of_tab (n := 20) (e := 134) Tryd.underlying150 Tryd.underlying134 (by kernel_rfl) (by kernel_rfl) hd
    unfold Lib.TabIs
    rw [hvar]
    congr 1
    cases cs with
    | mk l => exact congrArg List.toArray hcs
  · exact Go.Proofs.cell_of_shapedOpen_int (g := 2) (zero := #[.int .i64 0]) (t := 3) hs (of_decide_eq_true (by kernel_rfl)) (by kernel_rfl) rfl (by kernel_rfl) (by kernel_rfl) Tryd.underlying3
  · refine ⟨?_, ?_⟩
    · obtain ⟨g, t, cs, fuel, p, hg, hty, hvar, hd⟩ := reads_of hV "strconv.ErrSyntax" Rows.laid_strconv_ErrSyntax (by simp [listL])
      obtain rfl := Option.some.inj (gErrSyntax.symm.trans hg)
      obtain rfl := Option.some.inj (tErrSyntax.symm.trans hty)
      unfold Rows.laid_strconv_ErrSyntax at hd
      obtain ⟨_, u, v, hcs, _, _⟩ := iface_of_trod Tryd.underlying78 hd
      exact ⟨u, v, by rw [hvar]; congr 1; cases cs with | mk l => exact congrArg List.toArray hcs⟩
    · obtain ⟨g, t, cs, fuel, p, hg, hty, hvar, hd⟩ := reads_of hV "strconv.ErrRange" Rows.laid_strconv_ErrRange (by simp [listL])
      obtain rfl := Option.some.inj (gErrRange.symm.trans hg)
      obtain rfl := Option.some.inj (tErrRange.symm.trans hty)
      unfold Rows.laid_strconv_ErrRange at hd
      obtain ⟨_, u, v, hcs, _, _⟩ := iface_of_trod Tryd.underlying78 hd
      exact ⟨u, v, by rw [hvar]; congr 1; cases cs with | mk l => exact congrArg List.toArray hcs⟩
end Go.Proofs.YtelcdhjdlgedeaaDoor.Laid
