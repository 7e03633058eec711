/- Facts about a row of plain elements that a call was given to write and that the library rewrites in place; each states its own conditions. -/
import Derived.Test.YtnjjdojonflckaaGreatDoorKWKept
import Derived.Sort.Grow
namespace Go.Proofs.YtnjjdojonflckaaGreatDoorW.PrintMore
open Go.RowKit Go.Proofs.YtnjjdojonflckaaGreatDoorW.PrintWords Go.Sort
set_option linter.unusedSectionVars false
section
variable {α : Type} [Inhabited α] {enc : α → Value} {h1:∀x,(enc x).oneCell'=true} {e base g cap:Nat} {ok:Nat→Prop} {w w0:World} {v:Value} {xs ys:List α} {cur:Array Value}
theorem row_mk (hb:base≤g) (hh:w.heap[g]? = some (.cells cur e (0,0))) (hl:xs.length≤cap) (hm:cap≤maxLen) (hs:cur.size=cap) (h0:ok g) (hc:∀(j:Nat) (x : α),xs[j]? = some x→cur[j]? = some (enc x)):(Kd.scalar enc h1).R e w base ok (.slice (some ⟨g,0,none⟩) xs.length cap) xs:=by
 have hlen:(cur.toList.take (xs.length*1)).length=xs.length*1:=by rw[List.length_take];have:cur.toList.length=cur.size:=rfl;omega
 refine⟨fun k hk=>?_,cur.toList.take (xs.length*1),⟨hlen,.inr ⟨g,cap,cur,rfl,hb,hh,hl,hm,by rw[hs];exact(Nat.mul_one _).symm,rfl⟩⟩,hlen,fun j x hx=>?_⟩
 ·have:g=k:=by simpa [Value.ownBlock] using hk
  exact this ▸ h0
 ·have hj:j<xs.length:=by
   rcases Nat.lt_or_ge j xs.length with h | h
   ·exact h
   ·rw[List.getElem?_eq_none h] at hx;cases hx
  change ((cur.toList.take (xs.length*1)).drop (j*1)).take 1 = [enc x]
  have h2:=hc j x hx;rw[← Array.getElem?_toList] at h2;apply List.ext_getElem?
  intro i;cases i with
  | zero=>simpa [List.getElem?_take,List.getElem?_drop,hj] using h2
  | succ i=>simp[List.getElem?_take]
theorem sl (hg:w.heap[g]? = some (.cells cur e (0,0))) (n:Nat) (os:Array Obj) (off:Nat) (d:Array α):(grow (putRow enc (Sort.ahead w n) g off d) os).heap[g]? = some (.cells (putCells enc off d cur) e (0,0)):=by
 have hlt:g<w.heap.size:=by
  rcases Nat.lt_or_ge g w.heap.size with h | h
  ·exact h
  ·rw[Array.getElem?_eq_none h] at hg;cases hg
 rw[heap_grow_old _ _ (by rw[size_putRow];exact hlt)];show (w.heap.modify g (onCells (putCells enc off d)))[g]? = _
 rw[Array.getElem?_modify,if_pos rfl,hg];rfl
theorem l7 {i:Nat} (hi:i<w.heap.size) (hne:g≠i) (n:Nat) (os:Array Obj) (off:Nat) (d:Array α):(grow (putRow enc (Sort.ahead w n) g off d) os).heap[i]? = w.heap[i]?:=by
 rw[heap_grow_old _ _ (by rw[size_putRow];exact hi)];show (w.heap.modify g (onCells (putCells enc off d)))[i]? = _
 rw[Array.getElem?_modify,if_neg hne]
theorem mW (off:Nat) (d:Array α) (c:Array Value):(putCells enc off d c).size=c.size:=by simp[putCells]
theorem oz (d:Array α) (c:Array Value) {j:Nat} (hj:j<d.size) (hc:j<c.size):(putCells enc 0 d c)[j]? = some (enc d[j]):=by
 simp[putCells,hc,hj]
end
end Go.Proofs.YtnjjdojonflckaaGreatDoorW.PrintMore
