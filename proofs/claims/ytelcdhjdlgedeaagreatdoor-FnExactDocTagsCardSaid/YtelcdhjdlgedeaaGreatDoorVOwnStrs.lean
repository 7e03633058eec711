/- Facts about a row of texts that the library rewrites in place: the library speaks of lists of bytes, the walks of texts; each states its own conditions. -/
import Derived.Test.YtelcdhjdlgedeaaGreatDoorVOwnRows
import Derived.Sort.EncStr
import Derived.Lib.SlicesCompact
namespace Go.Proofs.YtelcdhjdlgedeaaGreatDoorW.PrintMore
open Go.RowKit Go.Proofs.YtelcdhjdlgedeaaGreatDoorW.PrintWords Go.Sort
def textOf (l : List UInt8) : ByteArray := ⟨l.toArray⟩
theorem textOf_data (x : ByteArray) : textOf x.data.toList = x := by cases x; rfl
def sortT (l : List ByteArray) : List ByteArray := ((l.map (·.data.toList)).mergeSort fun x y => decide (x ≤ y)).map textOf
theorem sortT_length (l : List ByteArray) : (sortT l).length = l.length := by
  unfold sortT; rw [List.length_map, List.length_mergeSort, List.length_map]
def compactT (l : List ByteArray) : List ByteArray := (Lib.compact (l.map (·.data.toList))).map textOf
theorem compactT_length (l : List ByteArray) : (compactT l).length ≤ l.length := by
  unfold compactT Lib.compact Lib.compactUpTo
  rw [List.length_map, List.length_map]
  exact Nat.le_trans (List.length_filter_le _ _) (by simp)
theorem strs_cells {l : List ByteArray} {cur : Array Value} (hc : ∀ (j : Nat) (x : ByteArray), l[j]? = some x → cur[j]? = some (Value.string x)) : ∀ (j : Nat) (x : List UInt8), (l.map (·.data.toList))[j]? = some x → cur[j]? = some (encStr x) := by
  intro j x hx
  rw [List.getElem?_map] at hx
  cases h : l[j]? with
  | none => rw [h] at hx; cases hx
  | some y =>
    rw [h] at hx
    obtain rfl := Option.some.inj hx
    rw [hc j y h]
theorem putRow_strs (w : World) (g off : Nat) (d : List (List UInt8)) : putRow encStr w g off d.toArray = putRow Value.string w g off (d.map textOf).toArray := by
  unfold putRow
  congr 1
  funext c
  unfold putCells
  apply Array.ext
  · simp
  · intro i h1 h2
    simp only [Array.getElem_mapIdx, List.size_toArray, List.length_map]
    by_cases hi : off ≤ i ∧ i < off + d.length
    · rw [if_pos hi, if_pos hi]
      have h3 : i - off < d.length := by omega
      show Value.string (textOf (d.toArray[i - off]!)) = Value.string ((d.map textOf).toArray[i - off]!)
      rw [getElem!_pos d.toArray (i - off) (by simpa using h3), getElem!_pos (d.map textOf).toArray (i - off) (by simpa using h3)]
      simp
    · rw [if_neg hi, if_neg hi]
end Go.Proofs.YtelcdhjdlgedeaaGreatDoorW.PrintMore
