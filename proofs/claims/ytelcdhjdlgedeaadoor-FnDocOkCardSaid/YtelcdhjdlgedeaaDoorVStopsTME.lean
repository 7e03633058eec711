/- What the walks know of package variables, and that a call which keeps what lay before keeps it; no condition. -/
import Derived.Test.YtelcdhjdlgedeaaDoorVWMore
import Derived.Test.YtelcdhjdlgedeaaDoorProg
import Derived.Lib.LaidTab
import Derived.Lib.ItoaNum
namespace Go.Proofs.YtelcdhjdlgedeaaDoorW.PrintMore
open Go.RowKit Go.Proofs.YtelcdhjdlgedeaaDoorW.PrintWords
def StopsIn (w : World) : Prop := Lib.TabIs Tryd.prog w "internal/strconv.uint64pow10" .u64 Lib.pow10Tab ∧ (∃ m : Int, w.cell? ⟨2, 0, none⟩ = some (.int .i64 m)) ∧ ((∃ u v, w.var? Tryd.prog "strconv.ErrSyntax" = some #[.iface u v]) ∧ (∃ u v, w.var? Tryd.prog "strconv.ErrRange" = some #[.iface u v]))
theorem StopsIn.tab {w : World} (h : StopsIn w) : Lib.TabIs Tryd.prog w "internal/strconv.uint64pow10" .u64 Lib.pow10Tab := h.1
theorem StopsIn.max {w : World} (h : StopsIn w) : (∃ m : Int, w.cell? ⟨2, 0, none⟩ = some (.int .i64 m)) := h.2.1
theorem StopsIn.errs {w : World} (h : StopsIn w) : ((∃ u v, w.var? Tryd.prog "strconv.ErrSyntax" = some #[.iface u v]) ∧ (∃ u v, w.var? Tryd.prog "strconv.ErrRange" = some #[.iface u v])) := h.2.2
theorem var_below {w w' : World} {n : String} {cs : Array Value} (h : w.var? Tryd.prog n = some cs) (hb : Below w.heap.size w w') : w'.var? Tryd.prog n = some cs := by
  unfold World.var? at h ⊢
  cases hg : Tryd.prog.globalNamed n with
  | none => rw [hg] at h; cases h
  | some g =>
    rw [hg] at h
    simp only [Option.bind_some] at h ⊢
    have hlt : g < w.heap.size := by
      rcases Nat.lt_or_ge g w.heap.size with h2 | h2
      · exact h2
      · rw [Array.getElem?_eq_none h2] at h; cases h
    rw [hb.block _ hlt]; exact h
theorem StopsIn.below {w w' : World} (h : StopsIn w) (hb : Below w.heap.size w w') : StopsIn w' := by
  refine ⟨?_, ?_, ?_⟩
  · have h1 := h.tab
    unfold Lib.TabIs World.var? at h1 ⊢
    have hg : Tryd.prog.globalNamed "internal/strconv.uint64pow10" = some 3 := by kernel_rfl
    rw [hg] at h1 ⊢
    simp only [Option.bind_some] at h1 ⊢
    have hlt : 3 < w.heap.size := by
      rcases Nat.lt_or_ge 3 w.heap.size with h2 | h2
      · exact h2
      · rw [Array.getElem?_eq_none h2] at h1; cases h1
    rw [hb.block _ hlt]; exact h1
  · obtain ⟨m, h1⟩ := h.max
    exact ⟨m, (hb.cell (World.block_lt_of_cell? w _ h1)).trans h1⟩
  · obtain ⟨⟨u1, v1, h1⟩, ⟨u2, v2, h2⟩⟩ := h.errs
    exact ⟨⟨u1, v1, var_below h1 hb⟩, ⟨u2, v2, var_below h2 hb⟩⟩
end Go.Proofs.YtelcdhjdlgedeaaDoorW.PrintMore
