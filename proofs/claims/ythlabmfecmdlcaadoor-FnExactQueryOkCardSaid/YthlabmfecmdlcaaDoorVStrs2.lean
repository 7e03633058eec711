/- A store leaves a cell where one was, and none where none was; no condition. -/
import Derived.Test.YthlabmfecmdlcaaDoorVWMore
namespace Go.Proofs.YthlabmfecmdlcaaDoorW.PrintMore
open Go.RowKit Go.Proofs.YthlabmfecmdlcaaDoorW.PrintWords
theorem isSome_setCell (w : World) (p q : Addr) (x : Value) : ((w.setCell p x).cell? q).isSome = (w.cell? q).isSome := by
  by_cases e : p = q
  · subst e
    simp only [World.setCell, World.cell?, Array.getElem?_modify, if_true]
    cases hb : w.heap[p.block]? with
    | none => rfl
    | some o =>
      cases o <;> simp only [Option.map_some]
      cases hs : p.spot with
      | some _ => simp
      | none => simp [Array.getElem?_setIfInBounds]; split <;> simp_all
  · rw [World.cell?_setCell_other w p q x e]
end Go.Proofs.YthlabmfecmdlcaaDoorW.PrintMore
