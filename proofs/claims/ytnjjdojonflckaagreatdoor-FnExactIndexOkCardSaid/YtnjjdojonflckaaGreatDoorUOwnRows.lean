/- Facts about a row of plain elements that a call was given to write and that the library rewrites in place; each states its own conditions. -/
import Derived.Test.YtnjjdojonflckaaGreatDoorUWKept
import Derived.Sort.Grow
namespace Go.Proofs.YtnjjdojonflckaaGreatDoorW.PrintMore
open Go.RowKit Go.Proofs.YtnjjdojonflckaaGreatDoorW.PrintWords Go.Sort
set_option linter.unusedSectionVars false
section
variable {α : Type} [Inhabited α] {enc : α → Value} {h1 : ∀ x, (enc x).oneCell' = true} {e base g cap : Nat} {ok : Nat → Prop} {w w0 : World} {v : Value} {xs ys : List α} {cur : Array Value}
theorem row_cases (h : (Kd.scalar enc h1).R e w base ok v xs) : (v = .slice none 0 0 ∧ xs = []) ∨ ∃ g cap cur, v = .slice (some ⟨g, 0, none⟩) xs.length cap ∧ base ≤ g ∧ w.heap[g]? = some (.cells cur e (0, 0)) ∧ xs.length ≤ cap ∧ cap ≤ maxLen ∧ cur.size = cap ∧ ok g ∧ ∀ (j : Nat) (x : α), xs[j]? = some x → cur[j]? = some (enc x) := by
 obtain ⟨h0, inner, ⟨_, ho⟩, hr⟩ := h; rcases ho with ⟨hv, hn⟩ | ⟨g, cap, cur, hv, hb, hh, hl, hm, hs, ht⟩
 ·exact .inl ⟨hv, List.length_eq_zero_iff.1 hn⟩
 ·refine .inr ⟨g, cap, cur, hv, hb, hh, hl, hm, by rw [hs]; exact Nat.mul_one _, h0 g (by rw [hv]; rfl), fun j x hx => ?_⟩; have hj : j < xs.length := by
   rcases Nat.lt_or_ge j xs.length with h | h
   ·exact h
   ·rw [List.getElem?_eq_none h] at hx; cases hx
  have := hr.2 j x hx; change (inner.drop (j * 1)).take 1 = [enc x] at this
  have h2 : inner[j]? = some (enc x) := by
   have h3 := congrArg (fun l => l[0]?) this; simp only [List.getElem?_take, List.getElem?_drop] at h3; simpa using h3
  rw [← ht, List.getElem?_take, if_pos (by change j < xs.length * 1; omega), Array.getElem?_toList] at h2; exact h2
theorem qA (hb : base ≤ g) (hh : w.heap[g]? = some (.cells cur e (0, 0))) (hl : xs.length ≤ cap) (hm : cap ≤ maxLen) (hs : cur.size = cap) (h0 : ok g) (hc : ∀ (j : Nat) (x : α), xs[j]? = some x → cur[j]? = some (enc x)) : (Kd.scalar enc h1).R e w base ok (.slice (some ⟨g, 0, none⟩) xs.length cap) xs := by
 have hlen : (cur.toList.take (xs.length * 1)).length = xs.length * 1 := by rw [List.length_take]; have : cur.toList.length = cur.size := rfl; omega
 refine ⟨fun k hk => ?_, cur.toList.take (xs.length * 1), ⟨hlen, .inr ⟨g, cap, cur, rfl, hb, hh, hl, hm, by rw [hs]; exact (Nat.mul_one _).symm, rfl⟩⟩, hlen, fun j x hx => ?_⟩
 ·have : g = k := by simpa [Value.ownBlock] using hk
  exact this ▸ h0
 ·have hj : j < xs.length := by
   rcases Nat.lt_or_ge j xs.length with h | h
   ·exact h
   ·rw [List.getElem?_eq_none h] at hx; cases hx
  change ((cur.toList.take (xs.length * 1)).drop (j * 1)).take 1 = [enc x]
  have h2 := hc j x hx; rw [← Array.getElem?_toList] at h2; apply List.ext_getElem?
  intro i; cases i with
  | zero => simpa [List.getElem?_take, List.getElem?_drop, hj] using h2
  | succ i => simp [List.getElem?_take]
theorem row_holds (hh : w.heap[g]? = some (.cells cur e (0, 0))) (hc : ∀ (j : Nat) (x : α), xs[j]? = some x → cur[j]? = some (enc x)) : Holds enc w g 0 xs.toArray := by
 intro j hj; have hj' : j < xs.length := by simpa using hj
 constructor
 ·simp only [World.cell?, hh, Nat.zero_add]; rw [if_neg (by decide), hc j xs[j] (List.getElem?_eq_getElem hj'), getElem!_pos xs.toArray j hj]; simp
 ·simp [World.frozen?, hh]
theorem nJ (hg : w.heap[g]? = some (.cells cur e (0, 0))) (n : Nat) (os : Array Obj) (off : Nat) (d : Array α) : (grow (putRow enc (Sort.ahead w n) g off d) os).heap[g]? = some (.cells (putCells enc off d cur) e (0, 0)) := by
 have hlt : g < w.heap.size := by
  rcases Nat.lt_or_ge g w.heap.size with h | h
  ·exact h
  ·rw [Array.getElem?_eq_none h] at hg; cases hg
 rw [heap_grow_old _ _ (by rw [size_putRow]; exact hlt)]; show (w.heap.modify g (onCells (putCells enc off d)))[g]? = _
 rw [Array.getElem?_modify, if_pos rfl, hg]; rfl
theorem fy {i : Nat} (hi : i < w.heap.size) (hne : g ≠ i) (n : Nat) (os : Array Obj) (off : Nat) (d : Array α) : (grow (putRow enc (Sort.ahead w n) g off d) os).heap[i]? = w.heap[i]? := by
 rw [heap_grow_old _ _ (by rw [size_putRow]; exact hi)]; show (w.heap.modify g (onCells (putCells enc off d)))[i]? = _
 rw [Array.getElem?_modify, if_neg hne]
theorem gR (off : Nat) (d : Array α) (c : Array Value) : (putCells enc off d c).size = c.size := by simp [putCells]
theorem ix (d : Array α) (c : Array Value) {j : Nat} (hj : j < d.size) (hc : j < c.size) : (putCells enc 0 d c)[j]? = some (enc d[j]) := by
 simp [putCells, hc, hj]
theorem row_put (hB : Below w0.heap.size w0 w) (hb : w0.heap.size ≤ g) (hh : w.heap[g]? = some (.cells cur e (0, 0))) (hl : xs.length ≤ cap) (hm : cap ≤ maxLen) (hs : cur.size = cap) (h0 : ok g) (n : Nat) (os : Array Obj) (d : List α) (hd : d.length ≤ cap) (hx : ∀ (j : Nat) (x : α), xs[j]? = some x → d[j]? = some x) :
  (Kd.scalar enc h1).R e (grow (putRow enc (Sort.ahead w n) g 0 d.toArray) os) w0.heap.size (fun k_ => (ok k_ ∨ w.heap.size ≤ k_)) (.slice (some ⟨g, 0, none⟩) xs.length cap) xs ∧ Below w0.heap.size w0 (grow (putRow enc (Sort.ahead w n) g 0 d.toArray) os) ∧ Kept w (grow (putRow enc (Sort.ahead w n) g 0 d.toArray) os) (fun k_ => ok k_) := by
 have hsz : w.heap.size ≤ (grow (putRow enc (Sort.ahead w n) g 0 d.toArray) os).heap.size := by
  rw [size_grow, size_putRow]; exact Nat.le_add_right _ _
 refine ⟨qA hb (nJ hh n os 0 d.toArray) hl hm (by rw [gR]; exact hs) (.inl h0) (fun j x hj => ?_), ⟨hB.os, hB.tape, hB.output, Nat.le_trans hB.size hsz, fun k hk => ?_⟩, hsz, fun i hi hn => ?_⟩
 ·have h2 := hx j x hj; have hjd : j < d.length := by
   rcases Nat.lt_or_ge j d.length with h | h
   ·exact h
   ·rw [List.getElem?_eq_none h] at h2; cases h2
  rw [List.getElem?_eq_getElem hjd] at h2; rw [ix d.toArray cur (by simpa using hjd) (by omega)]; have h3 : d[j] = x := Option.some.inj h2; simp [h3]
 ·rw [fy (Nat.lt_of_lt_of_le hk hB.size) (by omega) n os 0 d.toArray]; exact hB.block k hk
 ·exact fy hi (fun h => hn (h ▸ h0)) n os 0 d.toArray
end
end Go.Proofs.YtnjjdojonflckaaGreatDoorW.PrintMore
