/- Behind a call that keeps what lay before, the named variable reads as it did; no condition of its own. -/
import Derived.Test.YtelcdhjdlgedeaaGreatDoorRows
import Derived.Test.YtelcdhjdlgedeaaGreatDoorVWMore
import Derived.Test.YtelcdhjdlgedeaaGreatDoorVHanded2
import Derived.Deep.Slices
import Derived.ChangeArms
import Derived.ChangeVars
import Derived.ChangeShapes
import Derived.Carry
import Derived.MakeChecks
import Derived.LaidMore
import Derived.LaidHandle
import Derived.RowKit
namespace Go.Proofs.YtelcdhjdlgedeaaGreatDoor.Laid
open Go Go.ChangeShapes Go.RowKit Go.Proofs.YtelcdhjdlgedeaaGreatDoorW.PrintWords Go.Proofs.YtelcdhjdlgedeaaGreatDoorW.PrintMore
theorem gStops : Tryz.prog.globalNamed "loop.example/spandrel/impl.stops" = some 0 := by kernel_rfl
theorem tStops : (Tryz.prog.globals[0]?).map (·.type) = some 40 := by kernel_rfl
/-- Behind a call that keeps what lay before the variable reads as it did. -/
theorem vars_back {H : Type} {enc : TypeId × Value → H} {W W' : World} {gs : List (DataW H)} {q : List MemPlace} (hl : laidOutB Tryz.prog = true)
    (hV : DataW.TrodVars enc Tryz.prog W (fun _ => true) ["loop.example/spandrel/impl.stops"] gs q) (hb : Below W.heap.size W W') :
    DataW.TrodVars enc Tryz.prog W' (fun b => decide (b < W.heap.size)) ["loop.example/spandrel/impl.stops"] gs q := by
  obtain ⟨g, t, cs, fuel, d, p, rfl, hg, ht, hv, hd, rfl⟩ := trodVars_one hV
  have hg' := hg
  have ht' := ht
  obtain rfl := Option.some.inj (gStops.symm.trans hg)
  obtain rfl := Option.some.inj (tStops.symm.trans ht)
  have hlt : ∀ x ∈ p, x.block < W.heap.size := DataW.trod_lt fuel _ _ _ hd
  have hv2 : W'.var? Tryz.prog "loop.example/spandrel/impl.stops" = some cs := by
    unfold World.var? at hv ⊢
    rw [hg] at hv ⊢
    simp only [Option.bind_some] at hv ⊢
    have hlt : 0 < W.heap.size := by
      rcases Nat.lt_or_ge 0 W.heap.size with h | h
      · exact h
      · rw [Array.getElem?_eq_none h] at hv; cases hv
    rw [hb.block _ hlt]; exact hv
  have hone : ∃ v : Value, cs = #[v] ∧ v.cells.toList = [v] := by
    rcases Deep.open_slice1 Tryz.underlying40 (by kernel_rfl) hd with ⟨hcs, _⟩ | ⟨a, len, cap, m, n, V, D, Pl, hcs, _⟩
    · exact ⟨_, Array.eq_one_of_toList hcs, rfl⟩
    · exact ⟨_, Array.eq_one_of_toList hcs, rfl⟩
  obtain ⟨v, rfl, hcells⟩ := hone
  have htrod : DataW.Trod enc Tryz.prog W 0 (fun _ => true) true 40 v d p := ⟨fuel, by rw [hcells]; exact hd⟩
  obtain ⟨fuel', hd'⟩ := Below.trod hl (by kernel_rfl) (of_decide_eq_true (by kernel_rfl)) htrod hb hlt
  rw [hcells] at hd'
  have := trodVars_mk1 (spare := fun b => decide (b < W.heap.size)) hg' ht' hv2 hd'
  exact this
end Go.Proofs.YtelcdhjdlgedeaaGreatDoor.Laid
