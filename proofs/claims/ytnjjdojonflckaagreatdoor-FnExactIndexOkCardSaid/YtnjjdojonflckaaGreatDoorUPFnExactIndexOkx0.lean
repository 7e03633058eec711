/- Contracts of Go functions, each told as a plain Lean function. -/
import Derived.Below
import Derived.Deep.Draws
import Derived.Deep.AppendLies
import Derived.Maps.AppendAt
import Derived.OwnWalk
import Derived.Laws.BytesArg
import Derived.Laws.MakeOwn
import Derived.Laws.OwnMore
import Derived.Deep.OwnRows
import Derived.Tactics
import Derived.Lib.ConvBytes
import Derived.Laws.Slices
import Derived.WalkKit
import Derived.KernelRfl
import Derived.RowKit3
import Derived.Deep.LoopGhost
import Derived.Deep.QuietTactic
import Derived.BigQuiet
import Derived.WideLaws
import Derived.Deep.DeepCutAuto
import Derived.Deep.CutBlock
import Derived.Deep.RegionHeld3
import Derived.Laws.Rows
import Derived.Lib.AppendStr
import Derived.ArgAppend
import Derived.Laws.IdiomCopy
import Derived.OrdersHeld
import Derived.Laws.BitsLemmas
import Derived.RowKit
import Derived.Test.YtnjjdojonflckaaGreatDoorUEntRaw
import Derived.Test.YtnjjdojonflckaaGreatDoorUEntOrd
import Derived.Test.YtnjjdojonflckaaGreatDoorUSort
import Derived.Test.YtnjjdojonflckaaGreatDoorUOwnRows
import Derived.Test.YtnjjdojonflckaaGreatDoorUShelf
import Derived.StillTailTactics
import Derived.Sort.Walk0
import Derived.DeepKeys5
import Derived.Carry
import Derived.Lib.AtoiAllCases
import Derived.Lib.Hide
import Derived.Sort.Grow
import Derived.Lib.SplitLaws
import Derived.Test.YtnjjdojonflckaaGreatDoorUStopsSTME
import Derived.Test.YtnjjdojonflckaaGreatDoorUWFour
import Derived.Test.YtnjjdojonflckaaGreatDoorUWAt
import Derived.Test.YtnjjdojonflckaaGreatDoorUWEqStruct
import Derived.Test.YtnjjdojonflckaaGreatDoorUWRepsOne
import Derived.Test.YtnjjdojonflckaaGreatDoorUWInvWords
import Derived.Test.YtnjjdojonflckaaGreatDoorUWGuard
namespace Go.Proofs.YtnjjdojonflckaaGreatDoor.PFnExactIndexOk
open Go.RowKit Go.Proofs.YtnjjdojonflckaaGreatDoorW.PrintWords Go.Proofs.YtnjjdojonflckaaGreatDoorW.PrintLast Go.Proofs.YtnjjdojonflckaaGreatDoorW.PrintMore
attribute [local go_sem] bH bF cm cn cK cI b5 b4 ck cl
set_option linter.unusedVariables false
set_option linter.unusedSimpArgs false
def errW : Option Int → Value
 | none => .nilIface
 | some c => .iface 0 (.int .i64 c)
theorem cu : errW none = .nilIface := rfl
theorem ct (c : Int) : errW (some c) = .iface 0 (.int .i64 c) := rfl
theorem qT : (Tryz.prog.info? 3).map (fun i => (i.zero, i.size, i.bytes)) = some (some (.int .i64 0), 1, 8) := by kernel_rfl
theorem info5 : (Tryz.prog.info? 5).map (fun i => (i.zero, i.size, i.bytes)) = some (some (.int .u8 0), 1, 1) := by kernel_rfl
theorem eM : (Tryz.prog.info? 9).map (fun i => (i.zero, i.size, i.bytes)) = some (some (.string ⟨#[]⟩), 1, 16) := by kernel_rfl
theorem info46 : (Tryz.prog.info? 46).map (fun i => (i.zero, i.size, i.bytes)) = some (some (.agg #[(.int .i64 0), (.string ⟨#[]⟩), (.slice none 0 0)]), 3, 48) := by kernel_rfl
theorem m3 : (Tryz.prog.info? 50).map (fun i => (i.zero, i.size, i.bytes)) = some (some (.agg #[(.int .i64 0), (.slice none 0 0)]), 2, 32) := by kernel_rfl
theorem je : (Tryz.prog.info? 76).map (fun i => (i.zero, i.size, i.bytes)) = some (some (.agg #[(.string ⟨#[]⟩), (.string ⟨#[]⟩), (.slice none 0 0)]), 3, 56) := by kernel_rfl
theorem info86 : (Tryz.prog.info? 86).map (fun i => (i.zero, i.size, i.bytes)) = some (some (.agg #[(.string ⟨#[]⟩), (.string ⟨#[]⟩)]), 2, 32) := by kernel_rfl
theorem mi : (Tryz.prog.info? 90).map (fun i => (i.zero, i.size, i.bytes)) = some (some (.agg #[(.string ⟨#[]⟩), (.int .i64 0), (.int .i64 0)]), 3, 32) := by kernel_rfl
theorem info92 : (Tryz.prog.info? 92).map (fun i => (i.zero, i.size, i.bytes)) = some (some (.agg #[(.string ⟨#[]⟩), (.int .i64 0), (.int .i64 0)]), 3, 32) := by kernel_rfl
structure S92 where
 f0 : ByteArray
 f1 : Int
 f2 : Int
def z92 : S92 := ⟨(⟨#[]⟩ : ByteArray), (0 : Int), (0 : Int)⟩
def k92 : Kd S92 := Kd.iso (Kd.pair Kd.string (Kd.pair (Kd.int .i64) (Kd.int .i64))) (fun x : S92 => (x.f0, x.f1, x.f2))
theorem ro {w : World} {x : S92} {cs : List Value} (h : k92.K w x cs) : cs = [.string x.f0, .int .i64 x.f1, .int .i64 x.f2] := by
 obtain ⟨_, _, rfl, rfl, ⟨_, _, rfl, rfl, rfl⟩⟩ := h
 exact rfl
theorem lY {w : World} {base : Nat} {ok : Nat → Prop} {x : S92} {cs : List Value} (h : k92.M w base ok x cs) : cs = [.string x.f0, .int .i64 x.f1, .int .i64 x.f2] := by
 obtain ⟨_, _, rfl, rfl, ⟨_, _, rfl, rfl, rfl⟩⟩ := h
 exact rfl
theorem k92_mk (w : World) (x : S92)  : k92.K w x [.string x.f0, .int .i64 x.f1, .int .i64 x.f2] := ⟨[.string x.f0], [.int .i64 x.f1, .int .i64 x.f2], rfl, rfl, ⟨[.int .i64 x.f1], [.int .i64 x.f2], rfl, rfl, rfl⟩⟩
theorem o9 (w : World) (base : Nat) (ok : Nat → Prop) (x : S92)  : k92.M w base ok x [.string x.f0, .int .i64 x.f1, .int .i64 x.f2] := ⟨[.string x.f0], [.int .i64 x.f1, .int .i64 x.f2], rfl, rfl, ⟨[.int .i64 x.f1], [.int .i64 x.f2], rfl, rfl, rfl⟩⟩
theorem k92_mkF (W : World) (ok : Nat → Prop) (x : S92) : Kd.FK k92 W ok x [.string x.f0, .int .i64 x.f1, .int .i64 x.f2] := fun W2 _ => k92_mk W2 x
def ar (xs : List S92) (i : Int) : S92 := xs.getD i.toNat z92
theorem fJ {w : World} {A : Option Addr} {n : Nat} {xs : List S92} (h : Kd.C k92 w A n xs) (i : Int) (h0 : 0 ≤ i) (h1 : i < n) : ∃ ad , A = some ad ∧ w.cell? (ad.add (i.toNat * 3)) = some (.string (ar xs i).f0) ∧ w.cell? ⟨(ad.add (i.toNat * 3)).block, (ad.add (i.toNat * 3)).off + 1, none⟩ = some (.int .i64 (ar xs i).f1) ∧ w.cell? ⟨(ad.add (i.toNat * 3)).block, (ad.add (i.toNat * 3)).off + 2, none⟩ = some (.int .i64 (ar xs i).f2) := by
 obtain ⟨ad, c, e, _, hK, hc0⟩ := Kd.C_get h z92 i h0 h1
 have hc : ∀ j u, c[j]? = some u → w.cell? (ad.add (i.toNat * 3 + j)) = some u := hc0
 obtain rfl := ro hK
 exact ⟨ad, e, hc 0 _ rfl, by rw [← cr _ _ 1 (by omega)]; exact hc 1 _ rfl, by rw [← cr _ _ 2 (by omega)]; exact hc 2 _ rfl⟩
structure S86 where
 f0 : ByteArray
 f1 : ByteArray
def z86 : S86 := ⟨(⟨#[]⟩ : ByteArray), (⟨#[]⟩ : ByteArray)⟩
def k86 : Kd S86 := Kd.iso (Kd.pair Kd.string Kd.string) (fun x : S86 => (x.f0, x.f1))
theorem qG {w : World} {x : S86} {cs : List Value} (h : k86.K w x cs) : cs = [.string x.f0, .string x.f1] := by
 obtain ⟨_, _, rfl, rfl, rfl⟩ := h
 exact rfl
theorem lS {w : World} {base : Nat} {ok : Nat → Prop} {x : S86} {cs : List Value} (h : k86.M w base ok x cs) : cs = [.string x.f0, .string x.f1] := by
 obtain ⟨_, _, rfl, rfl, rfl⟩ := h
 exact rfl
theorem k86_mk (w : World) (x : S86)  : k86.K w x [.string x.f0, .string x.f1] := ⟨[.string x.f0], [.string x.f1], rfl, rfl, rfl⟩
theorem ph (w : World) (base : Nat) (ok : Nat → Prop) (x : S86)  : k86.M w base ok x [.string x.f0, .string x.f1] := ⟨[.string x.f0], [.string x.f1], rfl, rfl, rfl⟩
theorem k86_mkF (W : World) (ok : Nat → Prop) (x : S86) : Kd.FK k86 W ok x [.string x.f0, .string x.f1] := fun W2 _ => k86_mk W2 x
def ak (xs : List S86) (i : Int) : S86 := xs.getD i.toNat z86
theorem cz {w : World} {A : Option Addr} {n : Nat} {xs : List S86} (h : Kd.C k86 w A n xs) (i : Int) (h0 : 0 ≤ i) (h1 : i < n) : ∃ ad , A = some ad ∧ w.cell? (ad.add (i.toNat * 2)) = some (.string (ak xs i).f0) ∧ w.cell? ⟨(ad.add (i.toNat * 2)).block, (ad.add (i.toNat * 2)).off + 1, none⟩ = some (.string (ak xs i).f1) := by
 obtain ⟨ad, c, e, _, hK, hc0⟩ := Kd.C_get h z86 i h0 h1
 have hc : ∀ j u, c[j]? = some u → w.cell? (ad.add (i.toNat * 2 + j)) = some u := hc0
 obtain rfl := qG hK
 exact ⟨ad, e, hc 0 _ rfl, by rw [← cr _ _ 1 (by omega)]; exact hc 1 _ rfl⟩
def o8 (xs : List (List S86)) (i : Int) : (List S86) := xs.getD i.toNat ([] : List S86)
theorem at_L4 {w : World} {A : Option Addr} {n : Nat} {xs : List (List S86)} (h : Kd.C (Kd.slice 86 k86) w A n xs) (i : Int) (h0 : 0 ≤ i) (h1 : i < n) : ∃ ad A0 c0, A = some ad ∧ w.cell? (ad.add i.toNat) = some (.slice A0 (o8 xs i).length c0) ∧ (o8 xs i).length ≤ c0 ∧ k86.C w A0 (o8 xs i).length (o8 xs i) := by
 obtain ⟨ad, c, e, _, hK, hc0⟩ := Kd.C_get h ([] : List S86) i h0 h1
 have hc : ∀ j u, c[j]? = some u → w.cell? (ad.add (i.toNat * 1 + j)) = some u := hc0
 obtain ⟨A0, c0, rfl, l0, g0⟩ := hK
 exact ⟨ad, A0, c0, e, by have hq := hc 0 _ rfl; rwa [Nat.mul_one, Nat.add_zero] at hq, l0, g0⟩
structure S44 where
 f0 : ByteArray
 f1 : (List S86)
def z44 : S44 := ⟨(⟨#[]⟩ : ByteArray), ([] : List S86)⟩
def k44 : Kd S44 := Kd.iso (Kd.pair Kd.string (Kd.slice 86 k86)) (fun x : S44 => (x.f0, x.f1))
theorem iC {w : World} {x : S44} {cs : List Value} (h : k44.K w x cs) : ∃ A1 c1, cs = [.string x.f0, .slice A1 x.f1.length c1] ∧ x.f1.length ≤ c1 ∧ k86.C w A1 x.f1.length x.f1 := by
 obtain ⟨_, _, rfl, rfl, ⟨A1, c1, rfl, l1, g1⟩⟩ := h
 exact ⟨A1, c1, rfl, l1, g1⟩
theorem qj {w : World} {base : Nat} {ok : Nat → Prop} {x : S44} {cs : List Value} (h : k44.M w base ok x cs) : ∃ v1, cs = [.string x.f0, v1] ∧ k86.R 86 w base ok v1 x.f1 := by
 obtain ⟨_, _, rfl, rfl, ⟨v1, rfl, g1⟩⟩ := h
 exact ⟨v1, rfl, g1⟩
theorem qt (w : World) (x : S44) {A1 : Option Addr} {c1 : Nat} (l1 : x.f1.length ≤ c1) (g1 : k86.C w A1 x.f1.length x.f1) : k44.K w x [.string x.f0, .slice A1 x.f1.length c1] := ⟨[.string x.f0], [.slice A1 x.f1.length c1], rfl, rfl, ⟨A1, c1, rfl, l1, g1⟩⟩
theorem rB (w : World) (base : Nat) (ok : Nat → Prop) (x : S44) {v1 : Value} (g1 : k86.R 86 w base ok v1 x.f1) : k44.M w base ok x [.string x.f0, v1] := ⟨[.string x.f0], [v1], rfl, rfl, ⟨v1, rfl, g1⟩⟩
theorem k44_openF {W : World} {ok : Nat → Prop} {x : S44} {cs : List Value} (h : Kd.FK k44 W ok x cs) : ∃ A1 c1, cs = [.string x.f0, .slice A1 x.f1.length c1] ∧ x.f1.length ≤ c1 ∧ Kd.F k86 W ok A1 x.f1.length x.f1 := by
 obtain ⟨A1, c1, rfl, l1, _⟩ := iC (Kd.FK_now h)
 exact ⟨A1, c1, rfl, l1, (fun W' hW => by obtain ⟨A1_, c1_, he, l1_, g1_⟩ := iC (h W' hW); injection (Option.some.inj (show some (Value.slice A1 x.f1.length c1) = some (Value.slice A1_ x.f1.length c1_) from congrArg (fun l => l[1]?) he)) with ha_ _ _; rw [ha_]; exact g1_)⟩
theorem k44_mkF (W : World) (ok : Nat → Prop) (x : S44) {A1 : Option Addr} {c1 : Nat} (l1 : x.f1.length ≤ c1) (g1 : Kd.F k86 W ok A1 x.f1.length x.f1) : Kd.FK k44 W ok x [.string x.f0, .slice A1 x.f1.length c1] := fun W2 hW => qt W2 x l1 (g1 W2 hW)
def kW (xs : List S44) (i : Int) : S44 := xs.getD i.toNat z44
theorem at_T44 {w : World} {A : Option Addr} {n : Nat} {xs : List S44} (h : Kd.C k44 w A n xs) (i : Int) (h0 : 0 ≤ i) (h1 : i < n) : ∃ ad A1 c1, A = some ad ∧ w.cell? (ad.add (i.toNat * 2)) = some (.string (kW xs i).f0) ∧ w.cell? ⟨(ad.add (i.toNat * 2)).block, (ad.add (i.toNat * 2)).off + 1, none⟩ = some (.slice A1 (kW xs i).f1.length c1) ∧ (kW xs i).f1.length ≤ c1 ∧ k86.C w A1 (kW xs i).f1.length (kW xs i).f1 := by
 obtain ⟨ad, c, e, _, hK, hc0⟩ := Kd.C_get h z44 i h0 h1
 have hc : ∀ j u, c[j]? = some u → w.cell? (ad.add (i.toNat * 2 + j)) = some u := hc0
 obtain ⟨A1, c1, rfl, l1, g1⟩ := iC hK
 exact ⟨ad, A1, c1, e, hc 0 _ rfl, by rw [← cr _ _ 1 (by omega)]; exact hc 1 _ rfl, l1, g1⟩
structure S46 where
 f0 : Int
 f1 : S44
def z46 : S46 := ⟨(0 : Int), z44⟩
def k46 : Kd S46 := Kd.iso (Kd.pair (Kd.int .i64) k44) (fun x : S46 => (x.f0, x.f1))
theorem kS {w : World} {x : S46} {cs : List Value} (h : k46.K w x cs) : ∃ A2 c2, cs = [.int .i64 x.f0, .string x.f1.f0, .slice A2 x.f1.f1.length c2] ∧ x.f1.f1.length ≤ c2 ∧ k86.C w A2 x.f1.f1.length x.f1.f1 := by
 obtain ⟨_, _, rfl, rfl, s1⟩ := h
 obtain ⟨A2, c2, rfl, l2, g2⟩ := iC s1
 exact ⟨A2, c2, rfl, l2, g2⟩
theorem lP {w : World} {base : Nat} {ok : Nat → Prop} {x : S46} {cs : List Value} (h : k46.M w base ok x cs) : ∃ v2, cs = [.int .i64 x.f0, .string x.f1.f0, v2] ∧ k86.R 86 w base ok v2 x.f1.f1 := by
 obtain ⟨_, _, rfl, rfl, s1⟩ := h
 obtain ⟨v2, rfl, g2⟩ := qj s1
 exact ⟨v2, rfl, g2⟩
theorem k46_mk (w : World) (x : S46) {A2 : Option Addr} {c2 : Nat} (l2 : x.f1.f1.length ≤ c2) (g2 : k86.C w A2 x.f1.f1.length x.f1.f1) : k46.K w x [.int .i64 x.f0, .string x.f1.f0, .slice A2 x.f1.f1.length c2] := ⟨[.int .i64 x.f0], [.string x.f1.f0, .slice A2 x.f1.f1.length c2], rfl, rfl, (qt w x.f1 l2 g2)⟩
theorem o6 (w : World) (base : Nat) (ok : Nat → Prop) (x : S46) {v2 : Value} (g2 : k86.R 86 w base ok v2 x.f1.f1) : k46.M w base ok x [.int .i64 x.f0, .string x.f1.f0, v2] := ⟨[.int .i64 x.f0], [.string x.f1.f0, v2], rfl, rfl, (rB w base ok x.f1 g2)⟩
theorem k46_openF {W : World} {ok : Nat → Prop} {x : S46} {cs : List Value} (h : Kd.FK k46 W ok x cs) : ∃ A2 c2, cs = [.int .i64 x.f0, .string x.f1.f0, .slice A2 x.f1.f1.length c2] ∧ x.f1.f1.length ≤ c2 ∧ Kd.F k86 W ok A2 x.f1.f1.length x.f1.f1 := by
 obtain ⟨A2, c2, rfl, l2, _⟩ := kS (Kd.FK_now h)
 exact ⟨A2, c2, rfl, l2, (fun W' hW => by obtain ⟨A2_, c2_, he, l2_, g2_⟩ := kS (h W' hW); injection (Option.some.inj (show some (Value.slice A2 x.f1.f1.length c2) = some (Value.slice A2_ x.f1.f1.length c2_) from congrArg (fun l => l[2]?) he)) with ha_ _ _; rw [ha_]; exact g2_)⟩
theorem k46_mkF (W : World) (ok : Nat → Prop) (x : S46) {A2 : Option Addr} {c2 : Nat} (l2 : x.f1.f1.length ≤ c2) (g2 : Kd.F k86 W ok A2 x.f1.f1.length x.f1.f1) : Kd.FK k46 W ok x [.int .i64 x.f0, .string x.f1.f0, .slice A2 x.f1.f1.length c2] := fun W2 hW => k46_mk W2 x l2 (g2 W2 hW)
def ab (xs : List S46) (i : Int) : S46 := xs.getD i.toNat z46
theorem dG {w : World} {A : Option Addr} {n : Nat} {xs : List S46} (h : Kd.C k46 w A n xs) (i : Int) (h0 : 0 ≤ i) (h1 : i < n) : ∃ ad A2 c2, A = some ad ∧ w.cell? (ad.add (i.toNat * 3)) = some (.int .i64 (ab xs i).f0) ∧ w.cell? ⟨(ad.add (i.toNat * 3)).block, (ad.add (i.toNat * 3)).off + 1, none⟩ = some (.string (ab xs i).f1.f0) ∧ w.cell? ⟨(ad.add (i.toNat * 3)).block, (ad.add (i.toNat * 3)).off + 2, none⟩ = some (.slice A2 (ab xs i).f1.f1.length c2) ∧ (ab xs i).f1.f1.length ≤ c2 ∧ k86.C w A2 (ab xs i).f1.f1.length (ab xs i).f1.f1 := by
 obtain ⟨ad, c, e, _, hK, hc0⟩ := Kd.C_get h z46 i h0 h1
 have hc : ∀ j u, c[j]? = some u → w.cell? (ad.add (i.toNat * 3 + j)) = some u := hc0
 obtain ⟨A2, c2, rfl, l2, g2⟩ := kS hK
 exact ⟨ad, A2, c2, e, hc 0 _ rfl, by rw [← cr _ _ 1 (by omega)]; exact hc 1 _ rfl, by rw [← cr _ _ 2 (by omega)]; exact hc 2 _ rfl, l2, g2⟩
def pl (xs : List (List Int)) (i : Int) : (List Int) := xs.getD i.toNat ([] : List Int)
theorem at_L7 {w : World} {A : Option Addr} {n : Nat} {xs : List (List Int)} (h : Kd.C (Kd.slice 3 (Kd.int .i64)) w A n xs) (i : Int) (h0 : 0 ≤ i) (h1 : i < n) : ∃ ad A0 c0, A = some ad ∧ w.cell? (ad.add i.toNat) = some (.slice A0 (pl xs i).length c0) ∧ (pl xs i).length ≤ c0 ∧ (Kd.int .i64).C w A0 (pl xs i).length (pl xs i) := by
 obtain ⟨ad, c, e, _, hK, hc0⟩ := Kd.C_get h ([] : List Int) i h0 h1
 have hc : ∀ j u, c[j]? = some u → w.cell? (ad.add (i.toNat * 1 + j)) = some u := hc0
 obtain ⟨A0, c0, rfl, l0, g0⟩ := hK
 exact ⟨ad, A0, c0, e, by have hq := hc 0 _ rfl; rwa [Nat.mul_one, Nat.add_zero] at hq, l0, g0⟩
structure S50 where
 f0 : Int
 f1 : (List Int)
def z50 : S50 := ⟨(0 : Int), ([] : List Int)⟩
def k50 : Kd S50 := Kd.iso (Kd.pair (Kd.int .i64) (Kd.slice 3 (Kd.int .i64))) (fun x : S50 => (x.f0, x.f1))
theorem kf {w : World} {x : S50} {cs : List Value} (h : k50.K w x cs) : ∃ A1 c1, cs = [.int .i64 x.f0, .slice A1 x.f1.length c1] ∧ x.f1.length ≤ c1 ∧ (Kd.int .i64).C w A1 x.f1.length x.f1 := by
 obtain ⟨_, _, rfl, rfl, ⟨A1, c1, rfl, l1, g1⟩⟩ := h
 exact ⟨A1, c1, rfl, l1, g1⟩
theorem iQ {w : World} {base : Nat} {ok : Nat → Prop} {x : S50} {cs : List Value} (h : k50.M w base ok x cs) : ∃ v1, cs = [.int .i64 x.f0, v1] ∧ (Kd.int .i64).R 3 w base ok v1 x.f1 := by
 obtain ⟨_, _, rfl, rfl, ⟨v1, rfl, g1⟩⟩ := h
 exact ⟨v1, rfl, g1⟩
theorem k50_mk (w : World) (x : S50) {A1 : Option Addr} {c1 : Nat} (l1 : x.f1.length ≤ c1) (g1 : (Kd.int .i64).C w A1 x.f1.length x.f1) : k50.K w x [.int .i64 x.f0, .slice A1 x.f1.length c1] := ⟨[.int .i64 x.f0], [.slice A1 x.f1.length c1], rfl, rfl, ⟨A1, c1, rfl, l1, g1⟩⟩
theorem ii (w : World) (base : Nat) (ok : Nat → Prop) (x : S50) {v1 : Value} (g1 : (Kd.int .i64).R 3 w base ok v1 x.f1) : k50.M w base ok x [.int .i64 x.f0, v1] := ⟨[.int .i64 x.f0], [v1], rfl, rfl, ⟨v1, rfl, g1⟩⟩
theorem k50_openF {W : World} {ok : Nat → Prop} {x : S50} {cs : List Value} (h : Kd.FK k50 W ok x cs) : ∃ A1 c1, cs = [.int .i64 x.f0, .slice A1 x.f1.length c1] ∧ x.f1.length ≤ c1 ∧ Kd.F (Kd.int .i64) W ok A1 x.f1.length x.f1 := by
 obtain ⟨A1, c1, rfl, l1, _⟩ := kf (Kd.FK_now h)
 exact ⟨A1, c1, rfl, l1, (fun W' hW => by obtain ⟨A1_, c1_, he, l1_, g1_⟩ := kf (h W' hW); injection (Option.some.inj (show some (Value.slice A1 x.f1.length c1) = some (Value.slice A1_ x.f1.length c1_) from congrArg (fun l => l[1]?) he)) with ha_ _ _; rw [ha_]; exact g1_)⟩
theorem k50_mkF (W : World) (ok : Nat → Prop) (x : S50) {A1 : Option Addr} {c1 : Nat} (l1 : x.f1.length ≤ c1) (g1 : Kd.F (Kd.int .i64) W ok A1 x.f1.length x.f1) : Kd.FK k50 W ok x [.int .i64 x.f0, .slice A1 x.f1.length c1] := fun W2 hW => k50_mk W2 x l1 (g1 W2 hW)
def bm (xs : List S50) (i : Int) : S50 := xs.getD i.toNat z50
theorem gm {w : World} {A : Option Addr} {n : Nat} {xs : List S50} (h : Kd.C k50 w A n xs) (i : Int) (h0 : 0 ≤ i) (h1 : i < n) : ∃ ad A1 c1, A = some ad ∧ w.cell? (ad.add (i.toNat * 2)) = some (.int .i64 (bm xs i).f0) ∧ w.cell? ⟨(ad.add (i.toNat * 2)).block, (ad.add (i.toNat * 2)).off + 1, none⟩ = some (.slice A1 (bm xs i).f1.length c1) ∧ (bm xs i).f1.length ≤ c1 ∧ (Kd.int .i64).C w A1 (bm xs i).f1.length (bm xs i).f1 := by
 obtain ⟨ad, c, e, _, hK, hc0⟩ := Kd.C_get h z50 i h0 h1
 have hc : ∀ j u, c[j]? = some u → w.cell? (ad.add (i.toNat * 2 + j)) = some u := hc0
 obtain ⟨A1, c1, rfl, l1, g1⟩ := kf hK
 exact ⟨ad, A1, c1, e, hc 0 _ rfl, by rw [← cr _ _ 1 (by omega)]; exact hc 1 _ rfl, l1, g1⟩
def oN (xs : List (List S50)) (i : Int) : (List S50) := xs.getD i.toNat ([] : List S50)
theorem at_L9 {w : World} {A : Option Addr} {n : Nat} {xs : List (List S50)} (h : Kd.C (Kd.slice 50 k50) w A n xs) (i : Int) (h0 : 0 ≤ i) (h1 : i < n) : ∃ ad A0 c0, A = some ad ∧ w.cell? (ad.add i.toNat) = some (.slice A0 (oN xs i).length c0) ∧ (oN xs i).length ≤ c0 ∧ k50.C w A0 (oN xs i).length (oN xs i) := by
 obtain ⟨ad, c, e, _, hK, hc0⟩ := Kd.C_get h ([] : List S50) i h0 h1
 have hc : ∀ j u, c[j]? = some u → w.cell? (ad.add (i.toNat * 1 + j)) = some u := hc0
 obtain ⟨A0, c0, rfl, l0, g0⟩ := hK
 exact ⟨ad, A0, c0, e, by have hq := hc 0 _ rfl; rwa [Nat.mul_one, Nat.add_zero] at hq, l0, g0⟩
structure S76 where
 f0 : ByteArray
 f1 : ByteArray
 f2 : (List S50)
def z76 : S76 := ⟨(⟨#[]⟩ : ByteArray), (⟨#[]⟩ : ByteArray), ([] : List S50)⟩
def k76 : Kd S76 := Kd.iso (Kd.pair Kd.string (Kd.pair Kd.string (Kd.slice 50 k50))) (fun x : S76 => (x.f0, x.f1, x.f2))
theorem j8 {w : World} {x : S76} {cs : List Value} (h : k76.K w x cs) : ∃ A2 c2, cs = [.string x.f0, .string x.f1, .slice A2 x.f2.length c2] ∧ x.f2.length ≤ c2 ∧ k50.C w A2 x.f2.length x.f2 := by
 obtain ⟨_, _, rfl, rfl, ⟨_, _, rfl, rfl, ⟨A2, c2, rfl, l2, g2⟩⟩⟩ := h
 exact ⟨A2, c2, rfl, l2, g2⟩
theorem jd {w : World} {base : Nat} {ok : Nat → Prop} {x : S76} {cs : List Value} (h : k76.M w base ok x cs) : ∃ v2, cs = [.string x.f0, .string x.f1, v2] ∧ k50.R 50 w base ok v2 x.f2 := by
 obtain ⟨_, _, rfl, rfl, ⟨_, _, rfl, rfl, ⟨v2, rfl, g2⟩⟩⟩ := h
 exact ⟨v2, rfl, g2⟩
theorem k76_mk (w : World) (x : S76) {A2 : Option Addr} {c2 : Nat} (l2 : x.f2.length ≤ c2) (g2 : k50.C w A2 x.f2.length x.f2) : k76.K w x [.string x.f0, .string x.f1, .slice A2 x.f2.length c2] := ⟨[.string x.f0], [.string x.f1, .slice A2 x.f2.length c2], rfl, rfl, ⟨[.string x.f1], [.slice A2 x.f2.length c2], rfl, rfl, ⟨A2, c2, rfl, l2, g2⟩⟩⟩
theorem jS (w : World) (base : Nat) (ok : Nat → Prop) (x : S76) {v2 : Value} (g2 : k50.R 50 w base ok v2 x.f2) : k76.M w base ok x [.string x.f0, .string x.f1, v2] := ⟨[.string x.f0], [.string x.f1, v2], rfl, rfl, ⟨[.string x.f1], [v2], rfl, rfl, ⟨v2, rfl, g2⟩⟩⟩
theorem k76_openF {W : World} {ok : Nat → Prop} {x : S76} {cs : List Value} (h : Kd.FK k76 W ok x cs) : ∃ A2 c2, cs = [.string x.f0, .string x.f1, .slice A2 x.f2.length c2] ∧ x.f2.length ≤ c2 ∧ Kd.F k50 W ok A2 x.f2.length x.f2 := by
 obtain ⟨A2, c2, rfl, l2, _⟩ := j8 (Kd.FK_now h)
 exact ⟨A2, c2, rfl, l2, (fun W' hW => by obtain ⟨A2_, c2_, he, l2_, g2_⟩ := j8 (h W' hW); injection (Option.some.inj (show some (Value.slice A2 x.f2.length c2) = some (Value.slice A2_ x.f2.length c2_) from congrArg (fun l => l[2]?) he)) with ha_ _ _; rw [ha_]; exact g2_)⟩
theorem k76_mkF (W : World) (ok : Nat → Prop) (x : S76) {A2 : Option Addr} {c2 : Nat} (l2 : x.f2.length ≤ c2) (g2 : Kd.F k50 W ok A2 x.f2.length x.f2) : Kd.FK k76 W ok x [.string x.f0, .string x.f1, .slice A2 x.f2.length c2] := fun W2 hW => k76_mk W2 x l2 (g2 W2 hW)
def ax (xs : List S76) (i : Int) : S76 := xs.getD i.toNat z76
theorem dT {w : World} {A : Option Addr} {n : Nat} {xs : List S76} (h : Kd.C k76 w A n xs) (i : Int) (h0 : 0 ≤ i) (h1 : i < n) : ∃ ad A2 c2, A = some ad ∧ w.cell? (ad.add (i.toNat * 3)) = some (.string (ax xs i).f0) ∧ w.cell? ⟨(ad.add (i.toNat * 3)).block, (ad.add (i.toNat * 3)).off + 1, none⟩ = some (.string (ax xs i).f1) ∧ w.cell? ⟨(ad.add (i.toNat * 3)).block, (ad.add (i.toNat * 3)).off + 2, none⟩ = some (.slice A2 (ax xs i).f2.length c2) ∧ (ax xs i).f2.length ≤ c2 ∧ k50.C w A2 (ax xs i).f2.length (ax xs i).f2 := by
 obtain ⟨ad, c, e, _, hK, hc0⟩ := Kd.C_get h z76 i h0 h1
 have hc : ∀ j u, c[j]? = some u → w.cell? (ad.add (i.toNat * 3 + j)) = some u := hc0
 obtain ⟨A2, c2, rfl, l2, g2⟩ := j8 hK
 exact ⟨ad, A2, c2, e, hc 0 _ rfl, by rw [← cr _ _ 1 (by omega)]; exact hc 1 _ rfl, by rw [← cr _ _ 2 (by omega)]; exact hc 2 _ rfl, l2, g2⟩
structure S90 where
 f0 : ByteArray
 f1 : Int
 f2 : Int
def z90 : S90 := ⟨(⟨#[]⟩ : ByteArray), (0 : Int), (0 : Int)⟩
def k90 : Kd S90 := Kd.iso (Kd.pair Kd.string (Kd.pair (Kd.int .i64) (Kd.int .i64))) (fun x : S90 => (x.f0, x.f1, x.f2))
theorem qQ {w : World} {x : S90} {cs : List Value} (h : k90.K w x cs) : cs = [.string x.f0, .int .i64 x.f1, .int .i64 x.f2] := by
 obtain ⟨_, _, rfl, rfl, ⟨_, _, rfl, rfl, rfl⟩⟩ := h
 exact rfl
theorem k90_openM {w : World} {base : Nat} {ok : Nat → Prop} {x : S90} {cs : List Value} (h : k90.M w base ok x cs) : cs = [.string x.f0, .int .i64 x.f1, .int .i64 x.f2] := by
 obtain ⟨_, _, rfl, rfl, ⟨_, _, rfl, rfl, rfl⟩⟩ := h
 exact rfl
theorem k90_mk (w : World) (x : S90)  : k90.K w x [.string x.f0, .int .i64 x.f1, .int .i64 x.f2] := ⟨[.string x.f0], [.int .i64 x.f1, .int .i64 x.f2], rfl, rfl, ⟨[.int .i64 x.f1], [.int .i64 x.f2], rfl, rfl, rfl⟩⟩
theorem jU (w : World) (base : Nat) (ok : Nat → Prop) (x : S90)  : k90.M w base ok x [.string x.f0, .int .i64 x.f1, .int .i64 x.f2] := ⟨[.string x.f0], [.int .i64 x.f1, .int .i64 x.f2], rfl, rfl, ⟨[.int .i64 x.f1], [.int .i64 x.f2], rfl, rfl, rfl⟩⟩
theorem k90_mkF (W : World) (ok : Nat → Prop) (x : S90) : Kd.FK k90 W ok x [.string x.f0, .int .i64 x.f1, .int .i64 x.f2] := fun W2 _ => k90_mk W2 x
def dv (xs : List S90) (i : Int) : S90 := xs.getD i.toNat z90
theorem rt {w : World} {A : Option Addr} {n : Nat} {xs : List S90} (h : Kd.C k90 w A n xs) (i : Int) (h0 : 0 ≤ i) (h1 : i < n) : ∃ ad , A = some ad ∧ w.cell? (ad.add (i.toNat * 3)) = some (.string (dv xs i).f0) ∧ w.cell? ⟨(ad.add (i.toNat * 3)).block, (ad.add (i.toNat * 3)).off + 1, none⟩ = some (.int .i64 (dv xs i).f1) ∧ w.cell? ⟨(ad.add (i.toNat * 3)).block, (ad.add (i.toNat * 3)).off + 2, none⟩ = some (.int .i64 (dv xs i).f2) := by
 obtain ⟨ad, c, e, _, hK, hc0⟩ := Kd.C_get h z90 i h0 h1
 have hc : ∀ j u, c[j]? = some u → w.cell? (ad.add (i.toNat * 3 + j)) = some u := hc0
 obtain rfl := qQ hK
 exact ⟨ad, e, hc 0 _ rfl, by rw [← cr _ _ 1 (by omega)]; exact hc 1 _ rfl, by rw [← cr _ _ 2 (by omega)]; exact hc 2 _ rfl⟩
structure dU where
 f0 : ByteArray
 f1 : Int
 f2 : Int
def z127 : dU := ⟨(⟨#[]⟩ : ByteArray), (0 : Int), (0 : Int)⟩
def jQ : Kd dU := Kd.iso (Kd.pair Kd.string (Kd.pair (Kd.int .i64) (Kd.int .i64))) (fun x : dU => (x.f0, x.f1, x.f2))
theorem pR {w : World} {x : dU} {cs : List Value} (h : jQ.K w x cs) : cs = [.string x.f0, .int .i64 x.f1, .int .i64 x.f2] := by
 obtain ⟨_, _, rfl, rfl, ⟨_, _, rfl, rfl, rfl⟩⟩ := h
 exact rfl
theorem k127_openM {w : World} {base : Nat} {ok : Nat → Prop} {x : dU} {cs : List Value} (h : jQ.M w base ok x cs) : cs = [.string x.f0, .int .i64 x.f1, .int .i64 x.f2] := by
 obtain ⟨_, _, rfl, rfl, ⟨_, _, rfl, rfl, rfl⟩⟩ := h
 exact rfl
theorem rQ (w : World) (x : dU)  : jQ.K w x [.string x.f0, .int .i64 x.f1, .int .i64 x.f2] := ⟨[.string x.f0], [.int .i64 x.f1, .int .i64 x.f2], rfl, rfl, ⟨[.int .i64 x.f1], [.int .i64 x.f2], rfl, rfl, rfl⟩⟩
theorem k127_mkM (w : World) (base : Nat) (ok : Nat → Prop) (x : dU)  : jQ.M w base ok x [.string x.f0, .int .i64 x.f1, .int .i64 x.f2] := ⟨[.string x.f0], [.int .i64 x.f1, .int .i64 x.f2], rfl, rfl, ⟨[.int .i64 x.f1], [.int .i64 x.f2], rfl, rfl, rfl⟩⟩
theorem k127_mkF (W : World) (ok : Nat → Prop) (x : dU) : Kd.FK jQ W ok x [.string x.f0, .int .i64 x.f1, .int .i64 x.f2] := fun W2 _ => rQ W2 x
def dn (xs : List dU) (i : Int) : dU := xs.getD i.toNat z127
theorem mQ {w : World} {A : Option Addr} {n : Nat} {xs : List dU} (h : Kd.C jQ w A n xs) (i : Int) (h0 : 0 ≤ i) (h1 : i < n) : ∃ ad , A = some ad ∧ w.cell? (ad.add (i.toNat * 3)) = some (.string (dn xs i).f0) ∧ w.cell? ⟨(ad.add (i.toNat * 3)).block, (ad.add (i.toNat * 3)).off + 1, none⟩ = some (.int .i64 (dn xs i).f1) ∧ w.cell? ⟨(ad.add (i.toNat * 3)).block, (ad.add (i.toNat * 3)).off + 2, none⟩ = some (.int .i64 (dn xs i).f2) := by
 obtain ⟨ad, c, e, _, hK, hc0⟩ := Kd.C_get h z127 i h0 h1
 have hc : ∀ j u, c[j]? = some u → w.cell? (ad.add (i.toNat * 3 + j)) = some u := hc0
 obtain rfl := pR hK
 exact ⟨ad, e, hc 0 _ rfl, by rw [← cr _ _ 1 (by omega)]; exact hc 1 _ rfl, by rw [← cr _ _ 2 (by omega)]; exact hc 2 _ rfl⟩
structure dE where
 f0 : ByteArray
 f1 : ByteArray
def z200 : dE := ⟨(⟨#[]⟩ : ByteArray), (⟨#[]⟩ : ByteArray)⟩
def eJ : Kd dE := Kd.iso (Kd.pair Kd.string Kd.string) (fun x : dE => (x.f0, x.f1))
theorem pF {w : World} {x : dE} {cs : List Value} (h : eJ.K w x cs) : cs = [.string x.f0, .string x.f1] := by
 obtain ⟨_, _, rfl, rfl, rfl⟩ := h
 exact rfl
theorem k200_openM {w : World} {base : Nat} {ok : Nat → Prop} {x : dE} {cs : List Value} (h : eJ.M w base ok x cs) : cs = [.string x.f0, .string x.f1] := by
 obtain ⟨_, _, rfl, rfl, rfl⟩ := h
 exact rfl
theorem rD (w : World) (x : dE)  : eJ.K w x [.string x.f0, .string x.f1] := ⟨[.string x.f0], [.string x.f1], rfl, rfl, rfl⟩
theorem k200_mkM (w : World) (base : Nat) (ok : Nat → Prop) (x : dE)  : eJ.M w base ok x [.string x.f0, .string x.f1] := ⟨[.string x.f0], [.string x.f1], rfl, rfl, rfl⟩
theorem k200_mkF (W : World) (ok : Nat → Prop) (x : dE) : Kd.FK eJ W ok x [.string x.f0, .string x.f1] := fun W2 _ => rD W2 x
def ea (xs : List dE) (i : Int) : dE := xs.getD i.toNat z200
theorem mz {w : World} {A : Option Addr} {n : Nat} {xs : List dE} (h : Kd.C eJ w A n xs) (i : Int) (h0 : 0 ≤ i) (h1 : i < n) : ∃ ad , A = some ad ∧ w.cell? (ad.add (i.toNat * 2)) = some (.string (ea xs i).f0) ∧ w.cell? ⟨(ad.add (i.toNat * 2)).block, (ad.add (i.toNat * 2)).off + 1, none⟩ = some (.string (ea xs i).f1) := by
 obtain ⟨ad, c, e, _, hK, hc0⟩ := Kd.C_get h z200 i h0 h1
 have hc : ∀ j u, c[j]? = some u → w.cell? (ad.add (i.toNat * 2 + j)) = some u := hc0
 obtain rfl := pF hK
 exact ⟨ad, e, hc 0 _ rfl, by rw [← cr _ _ 1 (by omega)]; exact hc 1 _ rfl⟩
def mW (xs : List (List dE)) (i : Int) : (List dE) := xs.getD i.toNat ([] : List dE)
theorem at_L15 {w : World} {A : Option Addr} {n : Nat} {xs : List (List dE)} (h : Kd.C (Kd.slice 200 eJ) w A n xs) (i : Int) (h0 : 0 ≤ i) (h1 : i < n) : ∃ ad A0 c0, A = some ad ∧ w.cell? (ad.add i.toNat) = some (.slice A0 (mW xs i).length c0) ∧ (mW xs i).length ≤ c0 ∧ eJ.C w A0 (mW xs i).length (mW xs i) := by
 obtain ⟨ad, c, e, _, hK, hc0⟩ := Kd.C_get h ([] : List dE) i h0 h1
 have hc : ∀ j u, c[j]? = some u → w.cell? (ad.add (i.toNat * 1 + j)) = some u := hc0
 obtain ⟨A0, c0, rfl, l0, g0⟩ := hK
 exact ⟨ad, A0, c0, e, by have hq := hc 0 _ rfl; rwa [Nat.mul_one, Nat.add_zero] at hq, l0, g0⟩
structure gO where
 f0 : ByteArray
 f1 : (List dE)
def z131 : gO := ⟨(⟨#[]⟩ : ByteArray), ([] : List dE)⟩
def mV : Kd gO := Kd.iso (Kd.pair Kd.string (Kd.slice 200 eJ)) (fun x : gO => (x.f0, x.f1))
theorem gH {w : World} {x : gO} {cs : List Value} (h : mV.K w x cs) : ∃ A1 c1, cs = [.string x.f0, .slice A1 x.f1.length c1] ∧ x.f1.length ≤ c1 ∧ eJ.C w A1 x.f1.length x.f1 := by
 obtain ⟨_, _, rfl, rfl, ⟨A1, c1, rfl, l1, g1⟩⟩ := h
 exact ⟨A1, c1, rfl, l1, g1⟩
theorem ox {w : World} {base : Nat} {ok : Nat → Prop} {x : gO} {cs : List Value} (h : mV.M w base ok x cs) : ∃ v1, cs = [.string x.f0, v1] ∧ eJ.R 200 w base ok v1 x.f1 := by
 obtain ⟨_, _, rfl, rfl, ⟨v1, rfl, g1⟩⟩ := h
 exact ⟨v1, rfl, g1⟩
theorem oY (w : World) (x : gO) {A1 : Option Addr} {c1 : Nat} (l1 : x.f1.length ≤ c1) (g1 : eJ.C w A1 x.f1.length x.f1) : mV.K w x [.string x.f0, .slice A1 x.f1.length c1] := ⟨[.string x.f0], [.slice A1 x.f1.length c1], rfl, rfl, ⟨A1, c1, rfl, l1, g1⟩⟩
theorem qC (w : World) (base : Nat) (ok : Nat → Prop) (x : gO) {v1 : Value} (g1 : eJ.R 200 w base ok v1 x.f1) : mV.M w base ok x [.string x.f0, v1] := ⟨[.string x.f0], [v1], rfl, rfl, ⟨v1, rfl, g1⟩⟩
theorem k131_openF {W : World} {ok : Nat → Prop} {x : gO} {cs : List Value} (h : Kd.FK mV W ok x cs) : ∃ A1 c1, cs = [.string x.f0, .slice A1 x.f1.length c1] ∧ x.f1.length ≤ c1 ∧ Kd.F eJ W ok A1 x.f1.length x.f1 := by
 obtain ⟨A1, c1, rfl, l1, _⟩ := gH (Kd.FK_now h)
 exact ⟨A1, c1, rfl, l1, (fun W' hW => by obtain ⟨A1_, c1_, he, l1_, g1_⟩ := gH (h W' hW); injection (Option.some.inj (show some (Value.slice A1 x.f1.length c1) = some (Value.slice A1_ x.f1.length c1_) from congrArg (fun l => l[1]?) he)) with ha_ _ _; rw [ha_]; exact g1_)⟩
theorem k131_mkF (W : World) (ok : Nat → Prop) (x : gO) {A1 : Option Addr} {c1 : Nat} (l1 : x.f1.length ≤ c1) (g1 : Kd.F eJ W ok A1 x.f1.length x.f1) : Kd.FK mV W ok x [.string x.f0, .slice A1 x.f1.length c1] := fun W2 hW => oY W2 x l1 (g1 W2 hW)
def iu (xs : List gO) (i : Int) : gO := xs.getD i.toNat z131
theorem at_T131 {w : World} {A : Option Addr} {n : Nat} {xs : List gO} (h : Kd.C mV w A n xs) (i : Int) (h0 : 0 ≤ i) (h1 : i < n) : ∃ ad A1 c1, A = some ad ∧ w.cell? (ad.add (i.toNat * 2)) = some (.string (iu xs i).f0) ∧ w.cell? ⟨(ad.add (i.toNat * 2)).block, (ad.add (i.toNat * 2)).off + 1, none⟩ = some (.slice A1 (iu xs i).f1.length c1) ∧ (iu xs i).f1.length ≤ c1 ∧ eJ.C w A1 (iu xs i).f1.length (iu xs i).f1 := by
 obtain ⟨ad, c, e, _, hK, hc0⟩ := Kd.C_get h z131 i h0 h1
 have hc : ∀ j u, c[j]? = some u → w.cell? (ad.add (i.toNat * 2 + j)) = some u := hc0
 obtain ⟨A1, c1, rfl, l1, g1⟩ := gH hK
 exact ⟨ad, A1, c1, e, hc 0 _ rfl, by rw [← cr _ _ 1 (by omega)]; exact hc 1 _ rfl, l1, g1⟩
structure dS where
 f0 : Int
 f1 : gO
def z133 : dS := ⟨(0 : Int), z131⟩
def i8 : Kd dS := Kd.iso (Kd.pair (Kd.int .i64) mV) (fun x : dS => (x.f0, x.f1))
theorem jm {w : World} {x : dS} {cs : List Value} (h : i8.K w x cs) : ∃ A2 c2, cs = [.int .i64 x.f0, .string x.f1.f0, .slice A2 x.f1.f1.length c2] ∧ x.f1.f1.length ≤ c2 ∧ eJ.C w A2 x.f1.f1.length x.f1.f1 := by
 obtain ⟨_, _, rfl, rfl, s1⟩ := h
 obtain ⟨A2, c2, rfl, l2, g2⟩ := gH s1
 exact ⟨A2, c2, rfl, l2, g2⟩
theorem k133_openM {w : World} {base : Nat} {ok : Nat → Prop} {x : dS} {cs : List Value} (h : i8.M w base ok x cs) : ∃ v2, cs = [.int .i64 x.f0, .string x.f1.f0, v2] ∧ eJ.R 200 w base ok v2 x.f1.f1 := by
 obtain ⟨_, _, rfl, rfl, s1⟩ := h
 obtain ⟨v2, rfl, g2⟩ := ox s1
 exact ⟨v2, rfl, g2⟩
theorem rP (w : World) (x : dS) {A2 : Option Addr} {c2 : Nat} (l2 : x.f1.f1.length ≤ c2) (g2 : eJ.C w A2 x.f1.f1.length x.f1.f1) : i8.K w x [.int .i64 x.f0, .string x.f1.f0, .slice A2 x.f1.f1.length c2] := ⟨[.int .i64 x.f0], [.string x.f1.f0, .slice A2 x.f1.f1.length c2], rfl, rfl, (oY w x.f1 l2 g2)⟩
theorem k133_mkM (w : World) (base : Nat) (ok : Nat → Prop) (x : dS) {v2 : Value} (g2 : eJ.R 200 w base ok v2 x.f1.f1) : i8.M w base ok x [.int .i64 x.f0, .string x.f1.f0, v2] := ⟨[.int .i64 x.f0], [.string x.f1.f0, v2], rfl, rfl, (qC w base ok x.f1 g2)⟩
theorem k133_openF {W : World} {ok : Nat → Prop} {x : dS} {cs : List Value} (h : Kd.FK i8 W ok x cs) : ∃ A2 c2, cs = [.int .i64 x.f0, .string x.f1.f0, .slice A2 x.f1.f1.length c2] ∧ x.f1.f1.length ≤ c2 ∧ Kd.F eJ W ok A2 x.f1.f1.length x.f1.f1 := by
 obtain ⟨A2, c2, rfl, l2, _⟩ := jm (Kd.FK_now h)
 exact ⟨A2, c2, rfl, l2, (fun W' hW => by obtain ⟨A2_, c2_, he, l2_, g2_⟩ := jm (h W' hW); injection (Option.some.inj (show some (Value.slice A2 x.f1.f1.length c2) = some (Value.slice A2_ x.f1.f1.length c2_) from congrArg (fun l => l[2]?) he)) with ha_ _ _; rw [ha_]; exact g2_)⟩
theorem k133_mkF (W : World) (ok : Nat → Prop) (x : dS) {A2 : Option Addr} {c2 : Nat} (l2 : x.f1.f1.length ≤ c2) (g2 : Kd.F eJ W ok A2 x.f1.f1.length x.f1.f1) : Kd.FK i8 W ok x [.int .i64 x.f0, .string x.f1.f0, .slice A2 x.f1.f1.length c2] := fun W2 hW => rP W2 x l2 (g2 W2 hW)
def cX (xs : List dS) (i : Int) : dS := xs.getD i.toNat z133
theorem mP {w : World} {A : Option Addr} {n : Nat} {xs : List dS} (h : Kd.C i8 w A n xs) (i : Int) (h0 : 0 ≤ i) (h1 : i < n) : ∃ ad A2 c2, A = some ad ∧ w.cell? (ad.add (i.toNat * 3)) = some (.int .i64 (cX xs i).f0) ∧ w.cell? ⟨(ad.add (i.toNat * 3)).block, (ad.add (i.toNat * 3)).off + 1, none⟩ = some (.string (cX xs i).f1.f0) ∧ w.cell? ⟨(ad.add (i.toNat * 3)).block, (ad.add (i.toNat * 3)).off + 2, none⟩ = some (.slice A2 (cX xs i).f1.f1.length c2) ∧ (cX xs i).f1.f1.length ≤ c2 ∧ eJ.C w A2 (cX xs i).f1.f1.length (cX xs i).f1.f1 := by
 obtain ⟨ad, c, e, _, hK, hc0⟩ := Kd.C_get h z133 i h0 h1
 have hc : ∀ j u, c[j]? = some u → w.cell? (ad.add (i.toNat * 3 + j)) = some u := hc0
 obtain ⟨A2, c2, rfl, l2, g2⟩ := jm hK
 exact ⟨ad, A2, c2, e, hc 0 _ rfl, by rw [← cr _ _ 1 (by omega)]; exact hc 1 _ rfl, by rw [← cr _ _ 2 (by omega)]; exact hc 2 _ rfl, l2, g2⟩
structure dR where
 f0 : Int
 f1 : (List Int)
def z182 : dR := ⟨(0 : Int), ([] : List Int)⟩
def fA : Kd dR := Kd.iso (Kd.pair (Kd.int .i64) (Kd.slice 3 (Kd.int .i64))) (fun x : dR => (x.f0, x.f1))
theorem iK {w : World} {x : dR} {cs : List Value} (h : fA.K w x cs) : ∃ A1 c1, cs = [.int .i64 x.f0, .slice A1 x.f1.length c1] ∧ x.f1.length ≤ c1 ∧ (Kd.int .i64).C w A1 x.f1.length x.f1 := by
 obtain ⟨_, _, rfl, rfl, ⟨A1, c1, rfl, l1, g1⟩⟩ := h
 exact ⟨A1, c1, rfl, l1, g1⟩
theorem k182_openM {w : World} {base : Nat} {ok : Nat → Prop} {x : dR} {cs : List Value} (h : fA.M w base ok x cs) : ∃ v1, cs = [.int .i64 x.f0, v1] ∧ (Kd.int .i64).R 3 w base ok v1 x.f1 := by
 obtain ⟨_, _, rfl, rfl, ⟨v1, rfl, g1⟩⟩ := h
 exact ⟨v1, rfl, g1⟩
theorem rI (w : World) (x : dR) {A1 : Option Addr} {c1 : Nat} (l1 : x.f1.length ≤ c1) (g1 : (Kd.int .i64).C w A1 x.f1.length x.f1) : fA.K w x [.int .i64 x.f0, .slice A1 x.f1.length c1] := ⟨[.int .i64 x.f0], [.slice A1 x.f1.length c1], rfl, rfl, ⟨A1, c1, rfl, l1, g1⟩⟩
theorem k182_mkM (w : World) (base : Nat) (ok : Nat → Prop) (x : dR) {v1 : Value} (g1 : (Kd.int .i64).R 3 w base ok v1 x.f1) : fA.M w base ok x [.int .i64 x.f0, v1] := ⟨[.int .i64 x.f0], [v1], rfl, rfl, ⟨v1, rfl, g1⟩⟩
theorem k182_openF {W : World} {ok : Nat → Prop} {x : dR} {cs : List Value} (h : Kd.FK fA W ok x cs) : ∃ A1 c1, cs = [.int .i64 x.f0, .slice A1 x.f1.length c1] ∧ x.f1.length ≤ c1 ∧ Kd.F (Kd.int .i64) W ok A1 x.f1.length x.f1 := by
 obtain ⟨A1, c1, rfl, l1, _⟩ := iK (Kd.FK_now h)
 exact ⟨A1, c1, rfl, l1, (fun W' hW => by obtain ⟨A1_, c1_, he, l1_, g1_⟩ := iK (h W' hW); injection (Option.some.inj (show some (Value.slice A1 x.f1.length c1) = some (Value.slice A1_ x.f1.length c1_) from congrArg (fun l => l[1]?) he)) with ha_ _ _; rw [ha_]; exact g1_)⟩
theorem k182_mkF (W : World) (ok : Nat → Prop) (x : dR) {A1 : Option Addr} {c1 : Nat} (l1 : x.f1.length ≤ c1) (g1 : Kd.F (Kd.int .i64) W ok A1 x.f1.length x.f1) : Kd.FK fA W ok x [.int .i64 x.f0, .slice A1 x.f1.length c1] := fun W2 hW => rI W2 x l1 (g1 W2 hW)
def dH (xs : List dR) (i : Int) : dR := xs.getD i.toNat z182
theorem mT {w : World} {A : Option Addr} {n : Nat} {xs : List dR} (h : Kd.C fA w A n xs) (i : Int) (h0 : 0 ≤ i) (h1 : i < n) : ∃ ad A1 c1, A = some ad ∧ w.cell? (ad.add (i.toNat * 2)) = some (.int .i64 (dH xs i).f0) ∧ w.cell? ⟨(ad.add (i.toNat * 2)).block, (ad.add (i.toNat * 2)).off + 1, none⟩ = some (.slice A1 (dH xs i).f1.length c1) ∧ (dH xs i).f1.length ≤ c1 ∧ (Kd.int .i64).C w A1 (dH xs i).f1.length (dH xs i).f1 := by
 obtain ⟨ad, c, e, _, hK, hc0⟩ := Kd.C_get h z182 i h0 h1
 have hc : ∀ j u, c[j]? = some u → w.cell? (ad.add (i.toNat * 2 + j)) = some u := hc0
 obtain ⟨A1, c1, rfl, l1, g1⟩ := iK hK
 exact ⟨ad, A1, c1, e, hc 0 _ rfl, by rw [← cr _ _ 1 (by omega)]; exact hc 1 _ rfl, l1, g1⟩
def mS (xs : List (List dR)) (i : Int) : (List dR) := xs.getD i.toNat ([] : List dR)
theorem at_L19 {w : World} {A : Option Addr} {n : Nat} {xs : List (List dR)} (h : Kd.C (Kd.slice 182 fA) w A n xs) (i : Int) (h0 : 0 ≤ i) (h1 : i < n) : ∃ ad A0 c0, A = some ad ∧ w.cell? (ad.add i.toNat) = some (.slice A0 (mS xs i).length c0) ∧ (mS xs i).length ≤ c0 ∧ fA.C w A0 (mS xs i).length (mS xs i) := by
 obtain ⟨ad, c, e, _, hK, hc0⟩ := Kd.C_get h ([] : List dR) i h0 h1
 have hc : ∀ j u, c[j]? = some u → w.cell? (ad.add (i.toNat * 1 + j)) = some u := hc0
 obtain ⟨A0, c0, rfl, l0, g0⟩ := hK
 exact ⟨ad, A0, c0, e, by have hq := hc 0 _ rfl; rwa [Nat.mul_one, Nat.add_zero] at hq, l0, g0⟩
structure dQ where
 f0 : ByteArray
 f1 : ByteArray
 f2 : (List dR)
def z137 : dQ := ⟨(⟨#[]⟩ : ByteArray), (⟨#[]⟩ : ByteArray), ([] : List dR)⟩
def iI : Kd dQ := Kd.iso (Kd.pair Kd.string (Kd.pair Kd.string (Kd.slice 182 fA))) (fun x : dQ => (x.f0, x.f1, x.f2))
theorem ja {w : World} {x : dQ} {cs : List Value} (h : iI.K w x cs) : ∃ A2 c2, cs = [.string x.f0, .string x.f1, .slice A2 x.f2.length c2] ∧ x.f2.length ≤ c2 ∧ fA.C w A2 x.f2.length x.f2 := by
 obtain ⟨_, _, rfl, rfl, ⟨_, _, rfl, rfl, ⟨A2, c2, rfl, l2, g2⟩⟩⟩ := h
 exact ⟨A2, c2, rfl, l2, g2⟩
theorem k137_openM {w : World} {base : Nat} {ok : Nat → Prop} {x : dQ} {cs : List Value} (h : iI.M w base ok x cs) : ∃ v2, cs = [.string x.f0, .string x.f1, v2] ∧ fA.R 182 w base ok v2 x.f2 := by
 obtain ⟨_, _, rfl, rfl, ⟨_, _, rfl, rfl, ⟨v2, rfl, g2⟩⟩⟩ := h
 exact ⟨v2, rfl, g2⟩
theorem rH (w : World) (x : dQ) {A2 : Option Addr} {c2 : Nat} (l2 : x.f2.length ≤ c2) (g2 : fA.C w A2 x.f2.length x.f2) : iI.K w x [.string x.f0, .string x.f1, .slice A2 x.f2.length c2] := ⟨[.string x.f0], [.string x.f1, .slice A2 x.f2.length c2], rfl, rfl, ⟨[.string x.f1], [.slice A2 x.f2.length c2], rfl, rfl, ⟨A2, c2, rfl, l2, g2⟩⟩⟩
theorem k137_mkM (w : World) (base : Nat) (ok : Nat → Prop) (x : dQ) {v2 : Value} (g2 : fA.R 182 w base ok v2 x.f2) : iI.M w base ok x [.string x.f0, .string x.f1, v2] := ⟨[.string x.f0], [.string x.f1, v2], rfl, rfl, ⟨[.string x.f1], [v2], rfl, rfl, ⟨v2, rfl, g2⟩⟩⟩
theorem k137_openF {W : World} {ok : Nat → Prop} {x : dQ} {cs : List Value} (h : Kd.FK iI W ok x cs) : ∃ A2 c2, cs = [.string x.f0, .string x.f1, .slice A2 x.f2.length c2] ∧ x.f2.length ≤ c2 ∧ Kd.F fA W ok A2 x.f2.length x.f2 := by
 obtain ⟨A2, c2, rfl, l2, _⟩ := ja (Kd.FK_now h)
 exact ⟨A2, c2, rfl, l2, (fun W' hW => by obtain ⟨A2_, c2_, he, l2_, g2_⟩ := ja (h W' hW); injection (Option.some.inj (show some (Value.slice A2 x.f2.length c2) = some (Value.slice A2_ x.f2.length c2_) from congrArg (fun l => l[2]?) he)) with ha_ _ _; rw [ha_]; exact g2_)⟩
theorem k137_mkF (W : World) (ok : Nat → Prop) (x : dQ) {A2 : Option Addr} {c2 : Nat} (l2 : x.f2.length ≤ c2) (g2 : Kd.F fA W ok A2 x.f2.length x.f2) : Kd.FK iI W ok x [.string x.f0, .string x.f1, .slice A2 x.f2.length c2] := fun W2 hW => rH W2 x l2 (g2 W2 hW)
def cY (xs : List dQ) (i : Int) : dQ := xs.getD i.toNat z137
theorem mt {w : World} {A : Option Addr} {n : Nat} {xs : List dQ} (h : Kd.C iI w A n xs) (i : Int) (h0 : 0 ≤ i) (h1 : i < n) : ∃ ad A2 c2, A = some ad ∧ w.cell? (ad.add (i.toNat * 3)) = some (.string (cY xs i).f0) ∧ w.cell? ⟨(ad.add (i.toNat * 3)).block, (ad.add (i.toNat * 3)).off + 1, none⟩ = some (.string (cY xs i).f1) ∧ w.cell? ⟨(ad.add (i.toNat * 3)).block, (ad.add (i.toNat * 3)).off + 2, none⟩ = some (.slice A2 (cY xs i).f2.length c2) ∧ (cY xs i).f2.length ≤ c2 ∧ fA.C w A2 (cY xs i).f2.length (cY xs i).f2 := by
 obtain ⟨ad, c, e, _, hK, hc0⟩ := Kd.C_get h z137 i h0 h1
 have hc : ∀ j u, c[j]? = some u → w.cell? (ad.add (i.toNat * 3 + j)) = some u := hc0
 obtain ⟨A2, c2, rfl, l2, g2⟩ := ja hK
 exact ⟨ad, A2, c2, e, hc 0 _ rfl, by rw [← cr _ _ 1 (by omega)]; exact hc 1 _ rfl, by rw [← cr _ _ 2 (by omega)]; exact hc 2 _ rfl, l2, g2⟩
theorem bW {w : World} {g : Nat} {t : TypeId} {v0 v1 : Value} (h : w.heap[g]? = some (.cells #[v0, v1] t (0, 0))) : w.cell? ⟨g, 0, none⟩ = some v0 ∧ w.cell? ⟨g, 1, none⟩ = some v1 ∧ w.frozen? ⟨g, 0, none⟩ = false ∧ w.frozen? ⟨g, 1, none⟩ = false := ⟨(bP h 0).trans rfl, (bP h 1).trans rfl, dp h 0, dp h 1⟩
theorem bX {w : World} {g : Nat} {t : TypeId} {v0 v1 v2 : Value} (h : w.heap[g]? = some (.cells #[v0, v1, v2] t (0, 0))) : w.cell? ⟨g, 0, none⟩ = some v0 ∧ w.cell? ⟨g, 1, none⟩ = some v1 ∧ w.cell? ⟨g, 2, none⟩ = some v2 ∧ w.frozen? ⟨g, 0, none⟩ = false ∧ w.frozen? ⟨g, 1, none⟩ = false ∧ w.frozen? ⟨g, 2, none⟩ = false := ⟨(bP h 0).trans rfl, (bP h 1).trans rfl, (bP h 2).trans rfl, dp h 0, dp h 1, dp h 2⟩
theorem cF {w : World} {g : Nat} {t : TypeId} {v0 v1 v2 v3 : Value} (h : w.heap[g]? = some (.cells #[v0, v1, v2, v3] t (0, 0))) : w.cell? ⟨g, 0, none⟩ = some v0 ∧ w.cell? ⟨g, 1, none⟩ = some v1 ∧ w.cell? ⟨g, 2, none⟩ = some v2 ∧ w.cell? ⟨g, 3, none⟩ = some v3 ∧ w.frozen? ⟨g, 0, none⟩ = false ∧ w.frozen? ⟨g, 1, none⟩ = false ∧ w.frozen? ⟨g, 2, none⟩ = false ∧ w.frozen? ⟨g, 3, none⟩ = false := ⟨(bP h 0).trans rfl, (bP h 1).trans rfl, (bP h 2).trans rfl, (bP h 3).trans rfl, dp h 0, dp h 1, dp h 2, dp h 3⟩
theorem pu_ {P : Program} {md : Region.Mode} {ops : Array Oper} {Q : Exit → Act → World → Prop} {S : World → Prop} {ds : List Nat} {T : Bool × List (List Nat × List Nat)} {oi : Oper} {v : Value} {fuel : Nat} {l : Array Bool} {a a' : Act} {w : World} (i n : Nat) (l' : Array Bool) (HT : aa (dM md ops = T)) (h : aD P md ops Q S ds fuel l' a' w)
    (hi : ops[i]? = some oi := by rfl) (hN : oi.dst = some n := by rfl) (hc : anyT T l.toList l'.toList i = true := by kernel_rfl) (hQ : ∀ c a w, Q (.panic c) (a.put oi.dst v) w → Q (.panic c) a w := by exact fun _ _ _ h => h) (hw : Region.wanted oi (yielded ops a.tmps) = true := by rfl) (hy : ∀ w, (execOp a.eval oi).run P w = .ok (.value v) w := by intro w'; go_simp; with_reducible rfl)
    (ha : a.put (some n) v = a' := by simp only [Act.put, List.setIfInBounds_toArray, List.set_cons_zero, List.set_cons_succ, cP, dz]; rfl) : aD P md ops Q S ds (fuel + 1) l a w :=
  qN (i := i) (N := some n) l' hi hN (qR HT.out hc) hQ (Or.inl ⟨hw, hy⟩) ha h
theorem sk_ {P : Program} {md : Region.Mode} {ops : Array Oper} {Q : Exit → Act → World → Prop} {S : World → Prop} {ds : List Nat} {T : Bool × List (List Nat × List Nat)} {oi : Oper} {fuel : Nat} {l : Array Bool} {a a' : Act} {w : World} (i n : Nat) (l' : Array Bool) (HT : aa (dM md ops = T)) (h : aD P md ops Q S ds fuel l' a' w)
    (hi : ops[i]? = some oi := by rfl) (hN : oi.dst = some n := by rfl) (hc : anyT T l.toList l'.toList i = true := by kernel_rfl) (hQ : ∀ c a w, Q (.panic c) (a.put oi.dst undef) w → Q (.panic c) a w := by exact fun _ _ _ h => h) (hw : Region.wanted oi (yielded ops a.tmps) = false := by rfl)
    (ha : a.put (some n) undef = a' := by simp only [Act.put, List.setIfInBounds_toArray, List.set_cons_zero, List.set_cons_succ, cP, dz]; rfl) : aD P md ops Q S ds (fuel + 1) l a w :=
  qN (i := i) (N := some n) l' hi hN (qR HT.out hc) hQ (Or.inr ⟨hw, rfl⟩) ha h
theorem ta_ {P : Program} {md : Region.Mode} {ops : Array Oper} {Q : Exit → Act → World → Prop} {S : World → Prop} {ds : List Nat} {T : Bool × List (List Nat × List Nat)} {B : List Nat} {oi : Oper} {v : Value} {fuel : Nat} {l : Array Bool} {a a' : Act} {w : World} (i n : Nat) (l' : Array Bool) (HT : aa (dM md ops = T)) (HW : aa (dt T.2 B = true)) (hS : S w) (h : aD P md ops Q S ds fuel l' a' w)
    (hi : ops[i]? = some oi := by rfl) (hN : oi.dst = some n := by rfl) (hc : oT T B ds l.toList l'.toList i = true := by kernel_rfl) (hQ : ∀ c a w, Q (.panic c) (a.put oi.dst v) w → Q (.panic c) a w := by exact fun _ _ _ h => h) (hw : Region.wanted oi (yielded ops a.tmps) = true := by rfl) (hy : ∀ w, S w → (execOp a.eval oi).run P w = .ok (.value v) w := by intro w' hS_; (repeat (obtain ⟨_, hS_⟩ := hS_)); go_simp; with_reducible rfl)
    (ha : a.put (some n) v = a' := by simp only [Act.put, List.setIfInBounds_toArray, List.set_cons_zero, List.set_cons_succ, cP, dz]; rfl) : aD P md ops Q S ds (fuel + 1) l a w :=
  take_ (i := i) (N := some n) l' hi hN (ql HT.out HW.out hc) hQ (Or.inl ⟨hw, hy⟩) hS ha h
theorem am_ {p : Prop} (h : p) : aa p := aa.mk h
def bl_ : Nat → Nat → List Bool
  | 0, _ => []
  | n + 1, m => Nat.beq (m % 2) 1 :: bl_ n (m / 2)
def bm_ (n m : Nat) : Array Bool := (bl_ n m).toArray
class Ge (b : World) (g : Nat) : Prop where out : b.heap.size ≤ g
class Nb (g g' : Nat) : Prop where out : g ≠ g'
class Up (b w w1 : World) : Prop where o : Below b.heap.size b w → Below b.heap.size b w1
instance {b w : World} : Up b w w := ⟨id⟩
instance {b w w1 : World} [h : Up b w w1] {n : Nat} : Up b w (w1.drewN n) := ⟨fun k => aG (h.o k) n⟩
instance {b w w1 : World} [h : Up b w w1] : Up b w w1.drew := ⟨fun k => bg (h.o k)⟩
instance {b w w1 : World} [h : Up b w w1] {o : Obj} : Up b w (w1.alloc o) := ⟨fun k => bU (h.o k) o⟩
instance {b w w1 : World} {g i : Nat} {v : Value} [k : Ge b g] [h : Up b w w1] : Up b w (w1.setCell ⟨g, i, none⟩ v) := ⟨fun q => cR (h.o q) k.out⟩
class Uk (g : Nat) (w w1 : World) : Prop where o : ∀ {o : Obj}, w.heap[g]? = some o → w1.heap[g]? = some o
instance {g : Nat} {w : World} : Uk g w w := ⟨id⟩
instance {g : Nat} {w w1 : World} [h : Uk g w w1] {n : Nat} : Uk g w (w1.drewN n) := ⟨fun k => ah (h.o k) n⟩
instance {g : Nat} {w w1 : World} [h : Uk g w w1] : Uk g w w1.drew := ⟨fun k => ac (h.o k)⟩
instance {g : Nat} {w w1 : World} [h : Uk g w w1] {o : Obj} : Uk g w (w1.alloc o) := ⟨fun k => ai (h.o k) o⟩
instance {g : Nat} {w w1 : World} {g' i : Nat} {v : Value} [k : Nb g g'] [h : Uk g w w1] : Uk g w (w1.setCell ⟨g', i, none⟩ v) := ⟨fun q => (Below.heap_setCell w1 ⟨g', i, none⟩ v g k.out).trans (h.o q)⟩
theorem bw_ {b w w1 : World} (h : aa (Below b.heap.size b w)) [u : Up b w w1] : Below b.heap.size b w1 := u.o h.out
theorem bs_ {b w w1 w2 : World} (h : aa (Below b.heap.size b w)) (hb : Below w1.heap.size w1 w2) [u : Up b w w1] : aa (Below b.heap.size b w2) := ⟨cG (u.o h.out) hb⟩
theorem gw_ {b w w1 : World} {g : Nat} (h : aa (Below b.heap.size b w)) (hg : g = w1.heap.size) [u : Up b w w1] : Ge b g := ⟨hg ▸ aq (u.o h.out)⟩
theorem bb_ {g : Nat} {o : Obj} {w w1 w2 : World} (h : aa (w.heap[g]? = some o)) (hb : Below w1.heap.size w1 w2) [u : Uk g w w1] : aa (w2.heap[g]? = some o) := ⟨bz (u.o h.out) hb⟩
theorem nl_ {g g' : Nat} {o : Obj} {w w1 : World} (h : aa (w.heap[g]? = some o)) (hg : g' = w1.heap.size) [u : Uk g w w1] : Nb g g' := ⟨hg ▸ Nat.ne_of_lt (dY (u.o h.out))⟩
theorem ng_ {g g' : Nat} {o : Obj} {w w1 : World} (h : aa (w.heap[g]? = some o)) (hg : g' = w1.heap.size) [u : Uk g w w1] : Nb g' g := ⟨hg ▸ Nat.ne_of_gt (dY (u.o h.out))⟩
theorem cb_ {b w : World} {a : Addr} {v : Value} (h : aa (Below b.heap.size b w)) (hx : b.cell? a = some v) : w.cell? a = some v := aj h.out hx
theorem bc_ {w : World} {g t : Nat} {cs : Array Value} {v : Value} (h : aa (w.heap[g]? = some (.cells cs t (0, 0)))) (i : Nat) (e : cs[i]? = some v := by rfl) : w.cell? ⟨g, i, none⟩ = some v := (bP h.out i).trans e
theorem kc_ {α : Type} {d : Kd α} {b w w1 : World} {A : Option Addr} {n : Nat} {xs : List α} (h : aa (d.C b A n xs)) (hB : aa (Below b.heap.size b w)) [u : Up b w w1] : d.C w1 A n xs := Kd.C_below h.out (u.o hB.out)
theorem gn_ {α : Type} {c : Prop} [Decidable c] {a : Option α} {r : α} (h : (if c then a else none) = some r) : c ∧ a = some r := by
  split at h
  · exact ⟨by assumption, h⟩
  · exact absurd h (by simp)
theorem gm_ {α : Type} {c : Prop} [Decidable c] {a : Option α} {r : α} (h : (if c then none else a) = some r) : ¬ c ∧ a = some r := by
  split at h
  · exact absurd h (by simp)
  · exact ⟨by assumption, h⟩
theorem gd_ {α : Type} {c : Prop} [Decidable c] {a : Option α} {r : α} (h : (if c then a else none) = some r) : decide c = true ∧ a = some r := ⟨decide_eq_true (gn_ h).1, (gn_ h).2⟩
theorem ge_ {α : Type} {c : Prop} [Decidable c] {a : Option α} {r : α} (h : (if c then a else none) = some r) : (c = True) ∧ decide c = true ∧ a = some r := ⟨eq_true (gn_ h).1, gd_ h⟩
theorem gl_ {α : Type} {c : Prop} [Decidable c] {a : Option α} {r : α} (h : (if c then a else none) = some r) : aa c ∧ a = some r := ⟨⟨(gn_ h).1⟩, (gn_ h).2⟩
theorem bi_ {α β : Type} {o : Option α} {f : α → Option β} {r : β} (h : o.bind f = some r) : ∃ x, aa (o = some x) ∧ f x = some r := by
  obtain ⟨x, a, b⟩ := Option.bind_eq_some_iff.mp h
  exact ⟨x, ⟨a⟩, b⟩
theorem ht_ {α : Type} {a b r : α} (h : (if true = true then a else b) = r) : a = r := by rwa [if_pos rfl] at h
theorem hf_ {α : Type} {a b r : α} (h : (if false = true then a else b) = r) : b = r := by rwa [if_neg (show ¬ (false = true) by decide)] at h
theorem db {α : Type} [BEq α] [LawfulBEq α] {a b : α} (h : a = b) : (a == b) = true := beq_iff_eq.mpr h
theorem dd {α : Type} [BEq α] [LawfulBEq α] {a b : α} (h : a = b) : (a != b) = false := bne_eq_false_iff_eq.mpr h
theorem da {α : Type} [BEq α] [LawfulBEq α] {a b : α} (h : ¬ a = b) : (a == b) = false := beq_eq_false_iff_ne.mpr h
theorem dc {α : Type} [BEq α] [LawfulBEq α] {a b : α} (h : ¬ a = b) : (a != b) = true := bne_iff_ne.mpr h
theorem od_ {p : Prop} [Decidable p] (h : decide p = true := by first | (with_reducible assumption) | assumption) : p := of_decide_eq_true h
theorem pq_ (i : Int) (n : Nat) (h : decide (0 ≤ i) = true := by first | (with_reducible assumption) | assumption) (k : decide (i < (n : Int)) = true := by first | (with_reducible assumption) | assumption) : 0 ≤ i ∧ i < (n : Int) := ⟨of_decide_eq_true h, of_decide_eq_true k⟩
theorem tt_ {p q : Prop} (h : p) (k : q) : (p = True) ∧ (q = True) := ⟨eq_true h, eq_true k⟩
theorem on_ {P : Program} {md : Region.Mode} {ops : Array Oper} {Q : Exit → Act → World → Prop} {S : World → Prop} {ds : List Nat} {T : Bool × List (List Nat × List Nat)} {oi : Oper} {fuel : Nat} {l : Array Bool} {a : Act} {w : World} (i n : Nat) (l' : Array Bool) (HT : aa (dM md ops = T))
    (h : ∀ K : Act → World → Prop, Shut (∀ a' w', S w' → (S w' → aD P md ops Q S ds fuel l' a' w') → K a' w') → if Region.wanted oi (yielded ops a.tmps) = true then Oper.wp P oi a w K Q else K (a.put (some n) undef) w)
    (hi : ops[i]? = some oi := by rfl) (hN : oi.dst = some n := by rfl) (hc : (f9 T.2 l.toList == [i] && l.toList.set i true == l'.toList) = true := by kernel_rfl) (hd : i ∉ ds := by decide) : aD P md ops Q S ds (fuel + 1) l a w :=
  one_ (i := i) (N := some n) l' hi hN (one_of HT.out hc) hd h
theorem nm_ {P : Program} {md : Region.Mode} {ops : Array Oper} {Q : Exit → Act → World → Prop} {S : World → Prop} {ds : List Nat} {fuel : Nat} {l : Array Bool} {a a' : Act} {w : World} (h : aD P md ops Q S ds fuel l a' w) (ha : a = a' := by (show Act.put _ (some _) _ = _; simp only [Act.put, List.setIfInBounds_toArray, List.set_cons_zero, List.set_cons_succ, cP, dz]; rfl)) : aD P md ops Q S ds fuel l a w := gg ha h
theorem dn_ {P : Program} {md : Region.Mode} {ops : Array Oper} {Q : Exit → Act → World → Prop} {S : World → Prop} {ds : List Nat} {T : Bool × List (List Nat × List Nat)} {n : Nat} {l : Array Bool} {a : Act} {w : World} (HT : aa (dM md ops = T)) (h : Q .normal a w) (hc : (f9 T.2 l.toList == []) = true := by kernel_rfl) : aD P md ops Q S ds n l a w := done_ (rN HT.out hc) h
theorem bx_ {P : Program} {ops : Array Oper} {rest : List Oper} {o : Oper} {a : Act} {Q : Exit → Act → World → Prop} {W : World} (N : Tmp) (cs : Array Value) (t : TypeId) (h : ∀ g, g = W.heap.size → ∀ w1, w1.heap[g]? = some (.cells cs t (0, 0)) → Below W.heap.size W w1 → wpList P ops Q rest (a.put o.dst (.pointer (some ⟨g, 0, none⟩))) w1)
    (hd : o.dst = some N := by with_reducible rfl) (hg : o.guard = none := by rfl) (hr : (execOp a.eval o).run P W = .ok (.value (.pointer (some ⟨W.heap.size, 0, none⟩))) (W.alloc (.cells cs t (0, 0))) := by first | (go_simp; done) | (go_simp; rfl)) : wpList P ops Q (o :: rest) a W := bB hg hd hr h
theorem go_ {P : Program} {ops : Array Oper} {Q : Exit → Act → World → Prop} {oi : Oper} {N : Option Tmp} {a : Act} {w : World} {K : Act → World → Prop} {f : FuncId} {fn : Func} {ags : Array Operand} {ts : Array TypeId} {args : Array Value} {p : Ending → World → Prop} (hf : P.funcs[f]? = some fn) (hc : Calls P f args w p) (h : ∀ e w', p e w' → ∃ v, e = .returned v ∧ K (a.put N v) w')
    (hname : (fn.name == "runtime.NumGoroutine") = false := by kernel_rfl) (hb : fn.body.isSome = true := by rfl) (hw : Region.wanted oi (yielded ops a.tmps) = true := by rfl) (hN : oi.dst = N := by rfl) (hop : oi.op = .call { callee := .value (.func f), args := ags, argTypes := ts } := by rfl)
    (hargs : ags.map a.eval = args := by (try simp only [List.map_toArray, List.map_cons, List.map_nil]); first | done | rfl | (simp only [List.length_drop, List.length_take]; rfl)) : if Region.wanted oi (yielded ops a.tmps) = true then Oper.wp P oi a w K Q else K (a.put N undef) w :=
  goes_ hf hname hb args hw hN hop hargs (hc.mono h)
theorem gf_ {P : Program} {ops : Array Oper} {Q : Exit → Act → World → Prop} {rest : List Oper} {oi : Oper} {a : Act} {w : World} {f : FuncId} {fn : Func} {ags : Array Operand} {ts : Array TypeId} {args : Array Value} {p : Ending → World → Prop} (n : Nat) (hf : P.funcs[f]? = some fn) (hc : Calls P f args w p) (h : ∀ e w', p e w' → ∃ v, e = .returned v ∧ wpList P ops Q rest (a.put (some n) v) w')
    (hd : oi.dst = some n := by with_reducible rfl) (hop : oi.op = .call { callee := .value (.func f), args := ags, argTypes := ts } := by with_reducible rfl) (hg : oi.guard = none := by rfl) (hname : (fn.name == "runtime.NumGoroutine") = false := by kernel_rfl) (hb : fn.body.isSome = true := by rfl)
    (hargs : ags.map a.eval = args := by (try simp only [List.map_toArray, List.map_cons, List.map_nil]); first | done | rfl | (simp only [List.length_drop, List.length_take]; rfl)) : wpList P ops Q (oi :: rest) a w :=
  gD (some n) hd hg hf hname hb args hop hargs (hc.mono h)
theorem si_ {α : Type} {a b : α} (h : some a = some b) : a = b := Option.some.inj h
theorem gt_ {P : Program} {ops : Array Oper} {rest : List Oper} {o : Oper} {a : Act} {Q : Exit → Act → World → Prop} {W : World} (N : Tmp) (h : wpList P ops Q (o :: rest) a W) (hN : o.dst = some N := by with_reducible rfl) : wpList P ops Q (o :: rest) a W := h
theorem pt_ (i : Int) (n : Nat) (h : decide (0 ≤ i) = true := by first | (with_reducible assumption) | assumption) (k : decide (i < (n : Int)) = true := by first | (with_reducible assumption) | assumption) : (0 ≤ i) = True ∧ (i < (n : Int)) = True := ⟨eq_true (of_decide_eq_true h), eq_true (of_decide_eq_true k)⟩
theorem gB_ {P : Program} {ops : Array Oper} {Q : Exit → Act → World → Prop} {rest : List Oper} {oi : Oper} {a : Act} {w : World} {f : FuncId} {fn : Func} {ags : Array Operand} {ts : Array TypeId} {args : Array Value} {v : Value} (n : Nat) (hf : P.funcs[f]? = some fn) (hc : Calls P f args w fun e w' => e = .returned v ∧ Below w.heap.size w w') (h : ∀ w', Below w.heap.size w w' → wpList P ops Q rest (a.put (some n) v) w')
    (hd : oi.dst = some n := by with_reducible rfl) (hop : oi.op = .call { callee := .value (.func f), args := ags, argTypes := ts } := by with_reducible rfl) (hg : oi.guard = none := by rfl) (hname : (fn.name == "runtime.NumGoroutine") = false := by kernel_rfl) (hb : fn.body.isSome = true := by rfl)
    (hargs : ags.map a.eval = args := by (try simp only [List.map_toArray, List.map_cons, List.map_nil]); first | done | rfl | (simp only [List.length_drop, List.length_take]; rfl)) : wpList P ops Q (oi :: rest) a w :=
  gf_ n hf hc (fun e w' ⟨he, hb⟩ => ⟨v, he, h w' hb⟩) hd hop hg hname hb hargs
theorem gD_ {P : Program} {ops : Array Oper} {Q : Exit → Act → World → Prop} {rest : List Oper} {oi : Oper} {a : Act} {w : World} {f : FuncId} {fn : Func} {ags : Array Operand} {ts : Array TypeId} {args : Array Value} {v : Value} (n : Nat) (hf : P.funcs[f]? = some fn) (hc : Calls P f args w fun e w' => e = .returned v ∧ Drawn0 w w') (h : ∀ nd, wpList P ops Q rest (a.put (some n) v) (w.drewN nd))
    (hd : oi.dst = some n := by with_reducible rfl) (hop : oi.op = .call { callee := .value (.func f), args := ags, argTypes := ts } := by with_reducible rfl) (hg : oi.guard = none := by rfl) (hname : (fn.name == "runtime.NumGoroutine") = false := by kernel_rfl) (hb : fn.body.isSome = true := by rfl)
    (hargs : ags.map a.eval = args := by (try simp only [List.map_toArray, List.map_cons, List.map_nil]); first | done | rfl | (simp only [List.length_drop, List.length_take]; rfl)) : wpList P ops Q (oi :: rest) a w :=
  gf_ n hf hc (fun e w' ⟨he, ⟨nd, hb⟩⟩ => ⟨v, he, hb ▸ h nd⟩) hd hop hg hname hb hargs
theorem oB_ {P : Program} {ops : Array Oper} {Q : Exit → Act → World → Prop} {oi : Oper} {N : Option Tmp} {a : Act} {w : World} {K : Act → World → Prop} {f : FuncId} {fn : Func} {ags : Array Operand} {ts : Array TypeId} {args : Array Value} {v : Value} (hf : P.funcs[f]? = some fn) (hc : Calls P f args w fun e w' => e = .returned v ∧ Below w.heap.size w w') (h : ∀ w', Below w.heap.size w w' → K (a.put N v) w')
    (hname : (fn.name == "runtime.NumGoroutine") = false := by kernel_rfl) (hb : fn.body.isSome = true := by rfl) (hw : Region.wanted oi (yielded ops a.tmps) = true := by rfl) (hN : oi.dst = N := by rfl) (hop : oi.op = .call { callee := .value (.func f), args := ags, argTypes := ts } := by rfl)
    (hargs : ags.map a.eval = args := by (try simp only [List.map_toArray, List.map_cons, List.map_nil]); first | done | rfl | (simp only [List.length_drop, List.length_take]; rfl)) : if Region.wanted oi (yielded ops a.tmps) = true then Oper.wp P oi a w K Q else K (a.put N undef) w :=
  go_ hf hc (fun e w' ⟨he, hb⟩ => ⟨v, he, h w' hb⟩) hname hb hw hN hop hargs
theorem oD_ {P : Program} {ops : Array Oper} {Q : Exit → Act → World → Prop} {oi : Oper} {N : Option Tmp} {a : Act} {w : World} {K : Act → World → Prop} {f : FuncId} {fn : Func} {ags : Array Operand} {ts : Array TypeId} {args : Array Value} {v : Value} (hf : P.funcs[f]? = some fn) (hc : Calls P f args w fun e w' => e = .returned v ∧ Drawn0 w w') (h : ∀ nd, K (a.put N v) (w.drewN nd))
    (hname : (fn.name == "runtime.NumGoroutine") = false := by kernel_rfl) (hb : fn.body.isSome = true := by rfl) (hw : Region.wanted oi (yielded ops a.tmps) = true := by rfl) (hN : oi.dst = N := by rfl) (hop : oi.op = .call { callee := .value (.func f), args := ags, argTypes := ts } := by rfl)
    (hargs : ags.map a.eval = args := by (try simp only [List.map_toArray, List.map_cons, List.map_nil]); first | done | rfl | (simp only [List.length_drop, List.length_take]; rfl)) : if Region.wanted oi (yielded ops a.tmps) = true then Oper.wp P oi a w K Q else K (a.put N undef) w :=
  go_ hf hc (fun e w' ⟨he, ⟨nd, hb⟩⟩ => ⟨v, he, hb ▸ h nd⟩) hname hb hw hN hop hargs
theorem pv_ {P : Program} {md : Region.Mode} {ops : Array Oper} {Q : Exit → Act → World → Prop} {S : World → Prop} {ds : List Nat} {T : Bool × List (List Nat × List Nat)} {oi : Oper} {v : Value} {fuel m k : Nat} {a a' : Act} {w : World} (i n : Nat) (h : aD P md ops Q S ds fuel (bm_ m (k ||| 1 <<< i)) a' w)
    (HT : aa (dM md ops = T) := by assumption) (hi : ops[i]? = some oi := by rfl) (hN : oi.dst = some n := by rfl) (hc : anyT T (bm_ m k).toList (bm_ m (k ||| 1 <<< i)).toList i = true := by kernel_rfl) (hQ : ∀ c a w, Q (.panic c) (a.put oi.dst v) w → Q (.panic c) a w := by exact fun _ _ _ h => h) (hw : Region.wanted oi (yielded ops a.tmps) = true := by rfl) (hy : ∀ w, (execOp a.eval oi).run P w = .ok (.value v) w := by intro w'; go_simp; with_reducible rfl)
    (ha : a.put (some n) v = a' := by simp only [Act.put, List.setIfInBounds_toArray, List.set_cons_zero, List.set_cons_succ, cP, dz]; rfl) : aD P md ops Q S ds (fuel + 1) (bm_ m k) a w := pu_ i n _ HT h hi hN hc hQ hw hy ha
theorem sv_ {P : Program} {md : Region.Mode} {ops : Array Oper} {Q : Exit → Act → World → Prop} {S : World → Prop} {ds : List Nat} {T : Bool × List (List Nat × List Nat)} {oi : Oper} {fuel m k : Nat} {a a' : Act} {w : World} (i n : Nat) (h : aD P md ops Q S ds fuel (bm_ m (k ||| 1 <<< i)) a' w)
    (HT : aa (dM md ops = T) := by assumption) (hi : ops[i]? = some oi := by rfl) (hN : oi.dst = some n := by rfl) (hc : anyT T (bm_ m k).toList (bm_ m (k ||| 1 <<< i)).toList i = true := by kernel_rfl) (hQ : ∀ c a w, Q (.panic c) (a.put oi.dst undef) w → Q (.panic c) a w := by exact fun _ _ _ h => h) (hw : Region.wanted oi (yielded ops a.tmps) = false := by rfl)
    (ha : a.put (some n) undef = a' := by simp only [Act.put, List.setIfInBounds_toArray, List.set_cons_zero, List.set_cons_succ, cP, dz]; rfl) : aD P md ops Q S ds (fuel + 1) (bm_ m k) a w := sk_ i n _ HT h hi hN hc hQ hw ha
theorem tv_ {P : Program} {md : Region.Mode} {ops : Array Oper} {Q : Exit → Act → World → Prop} {S : World → Prop} {ds : List Nat} {T : Bool × List (List Nat × List Nat)} {B : List Nat} {oi : Oper} {v : Value} {fuel m k : Nat} {a a' : Act} {w : World} (i n : Nat) (h : aD P md ops Q S ds fuel (bm_ m (k ||| 1 <<< i)) a' w)
    (HT : aa (dM md ops = T) := by assumption) (HW : aa (dt T.2 B = true) := by assumption) (hS : S w := by assumption) (hi : ops[i]? = some oi := by rfl) (hN : oi.dst = some n := by rfl) (hc : oT T B ds (bm_ m k).toList (bm_ m (k ||| 1 <<< i)).toList i = true := by kernel_rfl) (hQ : ∀ c a w, Q (.panic c) (a.put oi.dst v) w → Q (.panic c) a w := by exact fun _ _ _ h => h) (hw : Region.wanted oi (yielded ops a.tmps) = true := by rfl) (hy : ∀ w, S w → (execOp a.eval oi).run P w = .ok (.value v) w := by intro w' hS_; (repeat (obtain ⟨_, hS_⟩ := hS_)); go_simp; with_reducible rfl)
    (ha : a.put (some n) v = a' := by simp only [Act.put, List.setIfInBounds_toArray, List.set_cons_zero, List.set_cons_succ, cP, dz]; rfl) : aD P md ops Q S ds (fuel + 1) (bm_ m k) a w := ta_ i n _ HT HW hS h hi hN hc hQ hw hy ha
theorem ov_ {P : Program} {md : Region.Mode} {ops : Array Oper} {Q : Exit → Act → World → Prop} {S : World → Prop} {ds : List Nat} {T : Bool × List (List Nat × List Nat)} {oi : Oper} {fuel m k : Nat} {a : Act} {w : World} (i n : Nat)
    (h : ∀ K : Act → World → Prop, Shut (∀ a' w', S w' → (S w' → aD P md ops Q S ds fuel (bm_ m (k ||| 1 <<< i)) a' w') → K a' w') → if Region.wanted oi (yielded ops a.tmps) = true then Oper.wp P oi a w K Q else K (a.put (some n) undef) w)
    (HT : aa (dM md ops = T) := by assumption) (hi : ops[i]? = some oi := by rfl) (hN : oi.dst = some n := by rfl) (hc : (f9 T.2 (bm_ m k).toList == [i] && (bm_ m k).toList.set i true == (bm_ m (k ||| 1 <<< i)).toList) = true := by kernel_rfl) (hd : i ∉ ds := by decide) : aD P md ops Q S ds (fuel + 1) (bm_ m k) a w := on_ i n _ HT h hi hN hc hd
theorem cc_ {b w w1 : World} {a : Addr} {v : Value} (h : aa (Below b.heap.size b w)) (hx : b.cell? a = some v) [u : Up b w w1] : w1.cell? a = some v := aj (u.o h.out) hx
class Uw (g : Nat) (w w1 : World) (cs : Array Value) (cs1 : outParam (Array Value)) : Prop where o : ∀ {t : TypeId}, w.heap[g]? = some (.cells cs t (0, 0)) → w1.heap[g]? = some (.cells cs1 t (0, 0))
instance {g : Nat} {w : World} {cs : Array Value} : Uw g w w cs cs := ⟨id⟩
instance {g : Nat} {w w1 : World} {cs cs1 : Array Value} [h : Uw g w w1 cs cs1] {n : Nat} : Uw g w (w1.drewN n) cs cs1 := ⟨fun k => ah (h.o k) n⟩
instance {g : Nat} {w w1 : World} {cs cs1 : Array Value} [h : Uw g w w1 cs cs1] : Uw g w w1.drew cs cs1 := ⟨fun k => ac (h.o k)⟩
instance {g : Nat} {w w1 : World} {cs cs1 : Array Value} [h : Uw g w w1 cs cs1] {o : Obj} : Uw g w (w1.alloc o) cs cs1 := ⟨fun k => ai (h.o k) o⟩
instance {g : Nat} {w w1 : World} {cs cs1 : Array Value} {g' i : Nat} {v : Value} [k : Nb g g'] [h : Uw g w w1 cs cs1] : Uw g w (w1.setCell ⟨g', i, none⟩ v) cs cs1 := ⟨fun q => cC (h.o q) (p := ⟨g', i, none⟩) k.out v⟩
instance {g : Nat} {w w1 : World} {cs cs1 : Array Value} {i : Nat} {v : Value} [h : Uw g w w1 cs cs1] : Uw g w (w1.setCell ⟨g, i, none⟩ v) cs (cs1.setIfInBounds i v) := ⟨fun q => aQ (h.o q) i v rfl⟩
theorem pb_ {g t : Nat} {w w1 : World} {cs cs1 cs2 : Array Value} (h : aa (w.heap[g]? = some (.cells cs t (0, 0)))) [u : Uw g w w1 cs cs1] (e : cs1 = cs2 := by rfl) : w1.heap[g]? = some (.cells cs2 t (0, 0)) := e ▸ u.o h.out
theorem kR_ {α : Type} {d : Kd α} {e base n c : Nat} {ok : Nat → Prop} {w w1 : World} {A : Option Addr} {xs : List α} (h : aa (Kd.R d e w base ok (.slice A n c) xs)) [u : Up w w w1] : d.C w1 A xs.length xs := Kd.C_below (Kd.R_reads' h.out).2.2 (u.o (Below.refl _ _))
theorem kS_ {α : Type} {d : Kd α} {e base n c : Nat} {ok : Nat → Prop} {w w1 : World} {A : Option Addr} {xs : List α} (h : aa (Kd.S d e w base ok (.slice A n c) xs)) [u : Up w w w1] : d.C w1 A xs.length xs := Kd.C_below (Kd.S_reads' h.out).2.2 (u.o (Below.refl _ _))
theorem kV_ {α : Type} {d : Kd α} {e base n c : Nat} {ok : Nat → Prop} {w w1 : World} {A : Option Addr} {xs : List α} (h : aa (Kd.V d e w base ok (.slice A n c) xs)) [u : Up w w w1] : d.C w1 A xs.length xs := Kd.C_below (Kd.V_reads' h.out).2.2 (u.o (Below.refl _ _))
class Ud (w w1 : World) : Prop where
  R : ∀ {α : Type} {d : Kd α} {e base : Nat} {ok : Nat → Prop} {v : Value} {xs : List α}, Kd.R d e w base ok v xs → Kd.R d e w1 base ok v xs
  S : ∀ {α : Type} {d : Kd α} {e base : Nat} {ok : Nat → Prop} {v : Value} {xs : List α}, Kd.S d e w base ok v xs → Kd.S d e w1 base ok v xs
  V : ∀ {α : Type} {d : Kd α} {e base : Nat} {ok : Nat → Prop} {v : Value} {xs : List α}, Kd.V d e w base ok v xs → Kd.V d e w1 base ok v xs
instance {w : World} : Ud w w := ⟨id, id, id⟩
instance {w w1 : World} [h : Ud w w1] {n : Nat} : Ud w (w1.drewN n) := ⟨fun k => Kd.R_drewN (h.R k) n, fun k => Kd.S_drewN (h.S k) n, fun k => Kd.V_drewN (h.V k) n⟩
instance {w w1 : World} [h : Ud w w1] : Ud w w1.drew := ⟨fun k => Kd.R_drew (h.R k), fun k => Kd.S_drew (h.S k), fun k => Kd.V_drew (h.V k)⟩
instance {w w1 : World} [h : Ud w w1] {o : Obj} : Ud w (w1.alloc o) := ⟨fun k => Kd.R_alloc (h.R k) o, fun k => Kd.S_alloc (h.S k) o, fun k => Kd.V_alloc (h.V k) o⟩
theorem aR_ {α : Type} {d : Kd α} {e base : Nat} {ok : Nat → Prop} {w w1 : World} {v : Value} {xs : List α} (h : Kd.R d e w base ok v xs) [u : Ud w w1] : Kd.R d e w1 base ok v xs := u.R h
theorem aS_ {α : Type} {d : Kd α} {e base : Nat} {ok : Nat → Prop} {w w1 : World} {v : Value} {xs : List α} (h : Kd.S d e w base ok v xs) [u : Ud w w1] : Kd.S d e w1 base ok v xs := u.S h
theorem aV_ {α : Type} {d : Kd α} {e base : Nat} {ok : Nat → Prop} {w w1 : World} {v : Value} {xs : List α} (h : Kd.V d e w base ok v xs) [u : Ud w w1] : Kd.V d e w1 base ok v xs := u.V h
class M1 {A R : Type} (f : Nat → A → Option R) (k : Nat) : Prop where o : ∀ a, LeO (f k a) (f (k + 1) a)
class M2 {A B R : Type} (f : Nat → A → B → Option R) (k : Nat) : Prop where o : ∀ a b, LeO (f k a b) (f (k + 1) a b)
class M3 {A B C R : Type} (f : Nat → A → B → C → Option R) (k : Nat) : Prop where o : ∀ a b c, LeO (f k a b c) (f (k + 1) a b c)
class M4 {A B C D R : Type} (f : Nat → A → B → C → D → Option R) (k : Nat) : Prop where o : ∀ a b c d, LeO (f k a b c d) (f (k + 1) a b c d)
class M5 {A B C D E R : Type} (f : Nat → A → B → C → D → E → Option R) (k : Nat) : Prop where o : ∀ a b c d e, LeO (f k a b c d e) (f (k + 1) a b c d e)
class M6 {A B C D E F R : Type} (f : Nat → A → B → C → D → E → F → Option R) (k : Nat) : Prop where o : ∀ a b c d e φ, LeO (f k a b c d e φ) (f (k + 1) a b c d e φ)
class M7 {A B C D E F G R : Type} (f : Nat → A → B → C → D → E → F → G → Option R) (k : Nat) : Prop where o : ∀ a b c d e φ g, LeO (f k a b c d e φ g) (f (k + 1) a b c d e φ g)
class M8 {A B C D E F G H R : Type} (f : Nat → A → B → C → D → E → F → G → H → Option R) (k : Nat) : Prop where o : ∀ a b c d e φ g h, LeO (f k a b c d e φ g h) (f (k + 1) a b c d e φ g h)
class M9 {A B C D E F G H I R : Type} (f : Nat → A → B → C → D → E → F → G → H → I → Option R) (k : Nat) : Prop where o : ∀ a b c d e φ g h i, LeO (f k a b c d e φ g h i) (f (k + 1) a b c d e φ g h i)
class M10 {A B C D E F G H I J R : Type} (f : Nat → A → B → C → D → E → F → G → H → I → J → Option R) (k : Nat) : Prop where o : ∀ a b c d e φ g h i j, LeO (f k a b c d e φ g h i j) (f (k + 1) a b c d e φ g h i j)
class M11 {A B C D E F G H I J K R : Type} (f : Nat → A → B → C → D → E → F → G → H → I → J → K → Option R) (k : Nat) : Prop where o : ∀ a b c d e φ g h i j κ, LeO (f k a b c d e φ g h i j κ) (f (k + 1) a b c d e φ g h i j κ)
class M12 {A B C D E F G H I J K L R : Type} (f : Nat → A → B → C → D → E → F → G → H → I → J → K → L → Option R) (k : Nat) : Prop where o : ∀ a b c d e φ g h i j κ l, LeO (f k a b c d e φ g h i j κ l) (f (k + 1) a b c d e φ g h i j κ l)
class M13 {A B C D E F G H I J K L M R : Type} (f : Nat → A → B → C → D → E → F → G → H → I → J → K → L → M → Option R) (k : Nat) : Prop where o : ∀ a b c d e φ g h i j κ l m, LeO (f k a b c d e φ g h i j κ l m) (f (k + 1) a b c d e φ g h i j κ l m)
class M14 {A B C D E F G H I J K L M N R : Type} (f : Nat → A → B → C → D → E → F → G → H → I → J → K → L → M → N → Option R) (k : Nat) : Prop where o : ∀ a b c d e φ g h i j κ l m n, LeO (f k a b c d e φ g h i j κ l m n) (f (k + 1) a b c d e φ g h i j κ l m n)
theorem mo_ {p : Prop} (h : p := by repeat' first | (with_reducible exact LeO.refl _) | (with_reducible exact M1.o _) | (with_reducible exact M2.o _ _) | (with_reducible exact M3.o _ _ _) | (with_reducible exact M4.o _ _ _ _) | (with_reducible exact M5.o _ _ _ _ _) | (with_reducible exact M6.o _ _ _ _ _ _) | (with_reducible exact M7.o _ _ _ _ _ _ _) | (with_reducible exact M8.o _ _ _ _ _ _ _ _) | (with_reducible exact M9.o _ _ _ _ _ _ _ _ _) | (with_reducible exact M10.o _ _ _ _ _ _ _ _ _ _) | (with_reducible exact M11.o _ _ _ _ _ _ _ _ _ _ _) | (with_reducible exact M12.o _ _ _ _ _ _ _ _ _ _ _ _) | (with_reducible exact M13.o _ _ _ _ _ _ _ _ _ _ _ _ _) | (with_reducible exact M14.o _ _ _ _ _ _ _ _ _ _ _ _ _ _) | (with_reducible exact LeO.none _) | (with_reducible refine LeO.ite ?_ ?_) | (with_reducible refine LeO.bind ?_ (fun _ => ?_))) : p := h
theorem u0_ {p : Prop} (h : p := by first | rfl | (simp [cu, ct] <;> rfl) | (simp [*, cu, ct] <;> rfl) | (simp; exact dW _)) : p := h
theorem u1_ {p : Prop} (h : p := by first | rfl | (simp; done) | (simp [*]; done)) : p := h
theorem u2_ {p : Prop} (h : p := by repeat (first | (with_reducible first | exact HK.out | apply Kept.alloc | apply Kept.drewN | apply Kept.drew) | exact HK.out)) : p := h
theorem u3_ {p : Prop} (h : p := by repeat (first | exact Drawn0.refl _ | apply Drawn0.step)) : p := h
theorem u4_ {p : Prop} (h : p := by first | rfl | (simp; done) | (simp [*]; done) | (simp; exact dW _)) : p := h
theorem u5_ {p : Prop} (h : p := by (with_reducible repeat (first | apply Kd.R_alloc | apply Kd.R_drewN | apply Kd.R_drew)); exact HO_3.out) : p := h
theorem u6_ {p : Prop} (h : p := by (with_reducible repeat (first | refine ah ?_ _ | refine ac ?_ | refine ai ?_ _)); refine aQ (cs := #[.string ((ax l0 x17_1).f0), .string ((ax l0 x17_1).f1), .slice none 0 0]) ?_ 2 _ rfl; (with_reducible repeat (first | refine ah ?_ _ | refine ac ?_ | refine ai ?_ _)); refine aQ (cs := #[.string ((ax l0 x17_1).f0), .string (⟨#[]⟩ : ByteArray), .slice none 0 0]) ?_ 1 _ rfl; (with_reducible repeat (first | refine ah ?_ _ | refine ac ?_ | refine ai ?_ _)); refine aQ (cs := #[.string (⟨#[]⟩ : ByteArray), .string (⟨#[]⟩ : ByteArray), .slice none 0 0]) ?_ 0 _ rfl; (with_reducible repeat (first | refine ah ?_ _ | refine ac ?_ | refine ai ?_ _)); exact BK449.out) : p := h
theorem u7_ {p : Prop} (h : p := by (with_reducible repeat (first | refine ah ?_ _ | refine ac ?_ | refine ai ?_ _)); refine aQ (cs := #[.int .i64 ((ab l0_1 x24_2).f0), .string ((ab l0_1 x24_2).f1.f0), .slice none 0 0]) ?_ 2 _ rfl; (with_reducible repeat (first | refine ah ?_ _ | refine ac ?_ | refine ai ?_ _)); refine aQ (cs := #[.int .i64 ((ab l0_1 x24_2).f0), .string (⟨#[]⟩ : ByteArray), .slice none 0 0]) ?_ 1 _ rfl; (with_reducible repeat (first | refine ah ?_ _ | refine ac ?_ | refine ai ?_ _)); refine aQ (cs := #[.int .i64 0, .string (⟨#[]⟩ : ByteArray), .slice none 0 0]) ?_ 0 _ rfl; (with_reducible repeat (first | refine ah ?_ _ | refine ac ?_ | refine ai ?_ _)); exact BK489.out) : p := h
theorem u8_ {p : Prop} (h : p := by first | exact HK.out.1 | exact (show Kept w _ (fun k_ => P0_ k_) from by repeat (first | (with_reducible first | exact HK.out | apply Kept.alloc | apply Kept.drewN | apply Kept.drew) | exact HK.out)).1) : p := h
theorem u9_ {p : Prop} (h : p := by (with_reducible repeat (first | apply Kd.R_alloc | apply Kd.R_drewN | apply Kd.R_drew)); exact HO_0.out) : p := h
theorem u10_ {p : Prop} (h : p := by (with_reducible repeat (first | refine ah ?_ _ | refine ac ?_ | refine ai ?_ _)); refine aQ (cs := #[.int .i64 ((ab l0_1 x3_1).f0), .string ((ab l0_1 x3_1).f1.f0), .slice none 0 0]) ?_ 2 _ rfl; (with_reducible repeat (first | refine ah ?_ _ | refine ac ?_ | refine ai ?_ _)); refine aQ (cs := #[.int .i64 ((ab l0_1 x3_1).f0), .string (⟨#[]⟩ : ByteArray), .slice none 0 0]) ?_ 1 _ rfl; (with_reducible repeat (first | refine ah ?_ _ | refine ac ?_ | refine ai ?_ _)); refine aQ (cs := #[.int .i64 0, .string (⟨#[]⟩ : ByteArray), .slice none 0 0]) ?_ 0 _ rfl; (with_reducible repeat (first | refine ah ?_ _ | refine ac ?_ | refine ai ?_ _)); exact BK262.out) : p := h
theorem u11_ {p : Prop} (h : p := by (with_reducible repeat (first | refine ah ?_ _ | refine ac ?_ | refine ai ?_ _)); refine aQ (cs := #[.string ((ak l1_1 x20_2).f0), .string (⟨#[]⟩ : ByteArray)]) ?_ 1 _ rfl; (with_reducible repeat (first | refine ah ?_ _ | refine ac ?_ | refine ai ?_ _)); refine aQ (cs := #[.string (⟨#[]⟩ : ByteArray), .string (⟨#[]⟩ : ByteArray)]) ?_ 0 _ rfl; (with_reducible repeat (first | refine ah ?_ _ | refine ac ?_ | refine ai ?_ _)); exact BK428.out) : p := h
theorem u12_ {p : Prop} (h : p := by (with_reducible repeat (first | refine ah ?_ _ | refine ac ?_ | refine ai ?_ _)); refine cC ?_ NB481_489.out _; (with_reducible repeat (first | refine ah ?_ _ | refine ac ?_ | refine ai ?_ _)); refine cC ?_ NB481_489.out _; (with_reducible repeat (first | refine ah ?_ _ | refine ac ?_ | refine ai ?_ _)); refine cC ?_ NB481_489.out _; (with_reducible repeat (first | refine ah ?_ _ | refine ac ?_ | refine ai ?_ _)); exact BK481.out) : p := h
theorem cx {p : Prop} (h : p := by first | (go_simp; done) | (go_simp; rfl)) : p := h
theorem u14_ {p : Prop} (h : p := by (with_reducible repeat (first | refine ah ?_ _ | refine ac ?_ | refine ai ?_ _)); refine aQ (cs := #[.int .i64 ((bm l0 x17_1).f0), .slice none 0 0]) ?_ 1 _ rfl; (with_reducible repeat (first | refine ah ?_ _ | refine ac ?_ | refine ai ?_ _)); refine aQ (cs := #[.int .i64 0, .slice none 0 0]) ?_ 0 _ rfl; (with_reducible repeat (first | refine ah ?_ _ | refine ac ?_ | refine ai ?_ _)); exact BK441.out) : p := h
theorem u15_ {p : Prop} (h : p := by (with_reducible repeat (first | refine ah ?_ _ | refine ac ?_ | refine ai ?_ _)); refine cC ?_ NB260_262.out _; (with_reducible repeat (first | refine ah ?_ _ | refine ac ?_ | refine ai ?_ _)); refine cC ?_ NB260_262.out _; (with_reducible repeat (first | refine ah ?_ _ | refine ac ?_ | refine ai ?_ _)); refine cC ?_ NB260_262.out _; (with_reducible repeat (first | refine ah ?_ _ | refine ac ?_ | refine ai ?_ _)); exact BK260.out) : p := h
theorem cU {p : Prop} (h : p := by intros; exact LeO.none _) : p := h
theorem jF {p : Prop} (h : p := by first | (rw [cA]; exact hn415_0) | (show (Addr.add _ _).block ≠ _; rw [cA]; exact hn415_0) | exact hn415_0) : p := h
theorem jN {p : Prop} (h : p := by first | (rw [cA]; exact hn415_1) | (show (Addr.add _ _).block ≠ _; rw [cA]; exact hn415_1) | exact hn415_1) : p := h
theorem aA {p : Prop} (h : p := by omega) : p := h
theorem du {p : Prop} (h : p := by have := HK1.out; omega) : p := h
theorem kY {p : Prop} (h : p := by (with_reducible repeat (first | apply Kd.R_alloc | apply Kd.R_drewN | apply Kd.R_drew)); exact HO538.out) : p := h
theorem kZ {p : Prop} (h : p := by (with_reducible repeat (first | apply Kd.S_alloc | apply Kd.S_drewN | apply Kd.S_drew)); exact HO541.out) : p := h
theorem ko {p : Prop} (h : p := by (with_reducible repeat (first | apply Kd.R_alloc | apply Kd.R_drewN | apply Kd.R_drew)); exact HO544.out) : p := h
theorem jP {p : Prop} (h : p := by have := World.block_lt_of_cell? _ _ hx415_0; first | rwa [cA] at this | exact this) : p := h
theorem u25_ {p : Prop} (h : p := by (with_reducible repeat (first | refine ah ?_ _ | refine ac ?_ | refine ai ?_ _)); refine aQ (cs := #[.string ((ax l1 x17_1).f0), .string ((ax l1 x17_1).f1), .slice none 0 0]) ?_ 2 _ rfl; (with_reducible repeat (first | refine ah ?_ _ | refine ac ?_ | refine ai ?_ _)); refine aQ (cs := #[.string ((ax l1 x17_1).f0), .string (⟨#[]⟩ : ByteArray), .slice none 0 0]) ?_ 1 _ rfl; (with_reducible repeat (first | refine ah ?_ _ | refine ac ?_ | refine ai ?_ _)); refine aQ (cs := #[.string (⟨#[]⟩ : ByteArray), .string (⟨#[]⟩ : ByteArray), .slice none 0 0]) ?_ 0 _ rfl; (with_reducible repeat (first | refine ah ?_ _ | refine ac ?_ | refine ai ?_ _)); exact BK451.out) : p := h
theorem ch {p : Prop} (h : p := by kernel_rfl) : p := h
theorem mF {p : Prop} (h : p := by simp only [ic, Act.put, List.setIfInBounds_toArray, List.set_cons_zero, List.set_cons_succ]) : p := h
theorem bC {p : Prop} (h : p := by decide) : p := h
theorem u29_ {p : Prop} (h : p := by (with_reducible repeat (first | refine ah ?_ _ | refine ac ?_ | refine ai ?_ _)); refine aQ (cs := #[.string ((ar l0 x10_1).f0), .int .i64 ((ar l0 x10_1).f1), .int .i64 0]) ?_ 2 _ rfl; (with_reducible repeat (first | refine ah ?_ _ | refine ac ?_ | refine ai ?_ _)); refine aQ (cs := #[.string ((ar l0 x10_1).f0), .int .i64 0, .int .i64 0]) ?_ 1 _ rfl; (with_reducible repeat (first | refine ah ?_ _ | refine ac ?_ | refine ai ?_ _)); refine aQ (cs := #[.string (⟨#[]⟩ : ByteArray), .int .i64 0, .int .i64 0]) ?_ 0 _ rfl; (with_reducible repeat (first | refine ah ?_ _ | refine ac ?_ | refine ai ?_ _)); exact BK399.out) : p := h
theorem nc {p : Prop} (h : p := by (with_reducible repeat (first | apply Kd.V_alloc | apply Kd.V_drewN | apply Kd.V_drew)); exact HO130.out) : p := h
theorem m4 {p : Prop} (h : p := by (with_reducible repeat (first | apply Kd.V_alloc | apply Kd.V_drewN | apply Kd.V_drew)); exact HO144.out) : p := h
theorem nH {p : Prop} (h : p := by (with_reducible repeat (first | apply Kd.V_alloc | apply Kd.V_drewN | apply Kd.V_drew)); exact HO155.out) : p := h
theorem nF {p : Prop} (h : p := by (with_reducible repeat (first | apply Kd.V_alloc | apply Kd.V_drewN | apply Kd.V_drew)); exact HO169.out) : p := h
theorem u34_ {p : Prop} (h : p := by (with_reducible repeat (first | refine ah ?_ _ | refine ac ?_ | refine ai ?_ _)); refine aQ (cs := #[.string ((ar l0 x3_1).f0), .int .i64 ((ar l0 x3_1).f1), .int .i64 0]) ?_ 2 _ rfl; (with_reducible repeat (first | refine ah ?_ _ | refine ac ?_ | refine ai ?_ _)); refine aQ (cs := #[.string ((ar l0 x3_1).f0), .int .i64 0, .int .i64 0]) ?_ 1 _ rfl; (with_reducible repeat (first | refine ah ?_ _ | refine ac ?_ | refine ai ?_ _)); refine aQ (cs := #[.string (⟨#[]⟩ : ByteArray), .int .i64 0, .int .i64 0]) ?_ 0 _ rfl; (with_reducible repeat (first | refine ah ?_ _ | refine ac ?_ | refine ai ?_ _)); exact BK105.out) : p := h
theorem u35_ {p : Prop} (h : p := by repeat (first | exact (Kd.C_below HR0_0.out (bw_ HB)) | (with_reducible refine Kd.C_alloc ?_ _) | (with_reducible refine Kd.C_drewN ?_ _) | (with_reducible refine Kd.C_drew ?_))) : p := h
theorem u36_ {p : Prop} (h : p := by (with_reducible repeat (first | apply Kd.R_alloc | apply Kd.R_drewN | apply Kd.R_drew)); exact HO136.out) : p := h
theorem u37_ {p : Prop} (h : p := by (with_reducible repeat (first | apply Kd.R_alloc | apply Kd.R_drewN | apply Kd.R_drew)); exact HO161.out) : p := h
theorem u38_ {p : Prop} (h : p := by first | (rw [cA]; exact hn450_0) | (show (Addr.add _ _).block ≠ _; rw [cA]; exact hn450_0) | exact hn450_0) : p := h
theorem u39_ {p : Prop} (h : p := by first | (rw [cA]; exact hn450_1) | (show (Addr.add _ _).block ≠ _; rw [cA]; exact hn450_1) | exact hn450_1) : p := h
theorem u40_ {p : Prop} (h : p := by first | (rw [cA]; exact hn450_2) | (show (Addr.add _ _).block ≠ _; rw [cA]; exact hn450_2) | exact hn450_2) : p := h
theorem u41_ {p : Prop} (h : p := by (with_reducible repeat (first | refine ah ?_ _ | refine ac ?_ | refine ai ?_ _)); exact BK424.out) : p := h
theorem u42_ {p : Prop} (h : p := by (with_reducible repeat (first | refine ah ?_ _ | refine ac ?_ | refine ai ?_ _)); exact BK481.out) : p := h
theorem u43_ {p : Prop} (h : p := by repeat (first | exact (Kd.C_below HR488_2.out (bw_ HB)) | (with_reducible refine Kd.C_alloc ?_ _) | (with_reducible refine Kd.C_drewN ?_ _) | (with_reducible refine Kd.C_drew ?_))) : p := h
theorem u44_ {p : Prop} (h : p := by (with_reducible repeat (first | apply Kd.S_alloc | apply Kd.S_drewN | apply Kd.S_drew)); exact HO_3.out) : p := h
theorem u45_ {p : Prop} (h : p := by repeat (first | exact (Kd.C_below HR0.out (bw_ HB)) | (with_reducible refine Kd.C_alloc ?_ _) | (with_reducible refine Kd.C_drewN ?_ _) | (with_reducible refine Kd.C_drew ?_))) : p := h
theorem u46_ {p : Prop} (h : p := by repeat (first | exact (Kd.C_below HG3_.out HB.out) | (with_reducible refine Kd.C_alloc ?_ _) | (with_reducible refine Kd.C_drewN ?_ _) | (with_reducible refine Kd.C_drew ?_))) : p := h
theorem u47_ {p : Prop} (h : p := by repeat (first | exact (Kd.R_reads' HO_3.out).2.2 | (with_reducible refine Kd.C_alloc ?_ _) | (with_reducible refine Kd.C_drewN ?_ _) | (with_reducible refine Kd.C_drew ?_))) : p := h
theorem u48_ {p : Prop} (h : p := by (with_reducible repeat (first | apply Kd.R_alloc | apply Kd.R_drewN | apply Kd.R_drew)); exact Kd.R_mono HO_0.out (fun _ hk => ⟨hk.1.1, ⟨hk.2, hk.1.2⟩⟩)) : p := h
theorem u49_ {p : Prop} (h : p := by (with_reducible repeat (first | refine ah ?_ _ | refine ac ?_ | refine ai ?_ _)); refine aQ (cs := #[.int .i64 ((bm l1 x17_1).f0), .slice none 0 0]) ?_ 1 _ rfl; (with_reducible repeat (first | refine ah ?_ _ | refine ac ?_ | refine ai ?_ _)); refine aQ (cs := #[.int .i64 0, .slice none 0 0]) ?_ 0 _ rfl; (with_reducible repeat (first | refine ah ?_ _ | refine ac ?_ | refine ai ?_ _)); exact BK443.out) : p := h
theorem u50_ {p : Prop} (h : p := by have := World.block_lt_of_cell? _ _ hx450_0; first | rwa [cA] at this | exact this) : p := h
theorem u51_ {p : Prop} (h : p := by (try simp only [List.map_toArray, List.map_cons, List.map_nil]); first | done | rfl | (simp only [List.length_drop, List.length_take]; rfl)) : p := h
theorem u52_ {p : Prop} (h : p := by (with_reducible repeat (first | apply Kd.R_alloc | apply Kd.R_drewN | apply Kd.R_drew)); exact HO549.out) : p := h
theorem u53_ {p : Prop} (h : p := by (with_reducible repeat (first | apply Kd.S_alloc | apply Kd.S_drewN | apply Kd.S_drew)); exact HO552.out) : p := h
theorem u54_ {p : Prop} (h : p := by (with_reducible repeat (first | apply Kd.R_alloc | apply Kd.R_drewN | apply Kd.R_drew)); exact HO555.out) : p := h
theorem u55_ {p : Prop} (h : p := by (with_reducible repeat (first | apply Kd.R_alloc | apply Kd.R_drewN | apply Kd.R_drew)); exact HO_7.out) : p := h
theorem fV {p : Prop} (h : p := by exact (aq (bw_ HB))) : p := h
theorem u57_ {p : Prop} (h : p := by (with_reducible repeat (first | apply Kd.R_alloc | apply Kd.R_drewN | apply Kd.R_drew)); exact HO_4.out) : p := h
theorem u58_ {p : Prop} (h : p := by first | rfl | (simp [cu, ct] <;> rfl) | (simp only [← hji24]; first | rfl | (simp [cu, ct] <;> rfl)) | (simp [*, cu, ct] <;> rfl) | (simp; exact dW _)) : p := h
theorem u59_ {p : Prop} (h : p := by exact (Reps.one (show Kd.M Kd.string _ _ _ a1 [.string a1] from rfl) (Reps.none _ _))) : p := h
theorem u60_ {p : Prop} (h : p := by (with_reducible repeat (first | refine ah ?_ _ | refine ac ?_ | refine ai ?_ _)); refine cC ?_ NB409_412.out _; (with_reducible repeat (first | refine ah ?_ _ | refine ac ?_ | refine ai ?_ _)); refine cC ?_ NB409_412.out _; (with_reducible repeat (first | refine ah ?_ _ | refine ac ?_ | refine ai ?_ _)); exact BK409.out) : p := h
theorem jH {p : Prop} (h : p := by first | omega | exact Nat.le_refl _) : p := h
theorem i1 {p : Prop} (h : p := by exact StopsIn.below HG_.out (bw_ HB)) : p := h
theorem u63_ {p : Prop} (h : p := by first | (rw [cA]; exact hn442_0) | (show (Addr.add _ _).block ≠ _; rw [cA]; exact hn442_0) | exact hn442_0) : p := h
theorem u64_ {p : Prop} (h : p := by first | (rw [cA]; exact hn442_1) | (show (Addr.add _ _).block ≠ _; rw [cA]; exact hn442_1) | exact hn442_1) : p := h
theorem u65_ {p : Prop} (h : p := by (with_reducible repeat (first | refine ah ?_ _ | refine ac ?_ | refine ai ?_ _)); exact BK205.out) : p := h
theorem ly {p : Prop} (h : p := by have := HK1.out; have := HK2.out; omega) : p := h
theorem u67_ {p : Prop} (h : p := by repeat (first | exact (Kd.V_reads' HO130.out).2.2 | (with_reducible refine Kd.C_alloc ?_ _) | (with_reducible refine Kd.C_drewN ?_ _) | (with_reducible refine Kd.C_drew ?_))) : p := h
theorem u68_ {p : Prop} (h : p := by repeat (first | exact (Kd.V_reads' HO155.out).2.2 | (with_reducible refine Kd.C_alloc ?_ _) | (with_reducible refine Kd.C_drewN ?_ _) | (with_reducible refine Kd.C_drew ?_))) : p := h
theorem u69_ {p : Prop} (h : p := by (with_reducible repeat (first | apply Kd.R_alloc | apply Kd.R_drewN | apply Kd.R_drew)); exact Kd.R_mono HO133.out (fun _ hk => ⟨hk.1, ⟨hk.2.2, hk.2.1⟩⟩)) : p := h
theorem u70_ {p : Prop} (h : p := by (with_reducible repeat (first | apply Kd.R_alloc | apply Kd.R_drewN | apply Kd.R_drew)); exact Kd.R_mono HO158.out (fun _ hk => ⟨hk.1, ⟨hk.2.2, hk.2.1⟩⟩)) : p := h
theorem u71_ {p : Prop} (h : p := by (with_reducible repeat (first | apply Kd.R_alloc | apply Kd.R_drewN | apply Kd.R_drew)); exact HO_5.out) : p := h
theorem u72_ {p : Prop} (h : p := by repeat (first | exact HR0.out | (with_reducible refine Kd.C_alloc ?_ _) | (with_reducible refine Kd.C_drewN ?_ _) | (with_reducible refine Kd.C_drew ?_))) : p := h
theorem u73_ {p : Prop} (h : p := by have := World.block_lt_of_cell? _ _ hx442_0; first | rwa [cA] at this | exact this) : p := h
theorem u74_ {p : Prop} (h : p := by have := HK1.out; first | omega | exact Nat.le_refl _) : p := h
theorem u75_ {p : Prop} (h : p := by (with_reducible repeat (first | refine ah ?_ _ | refine ac ?_ | refine ai ?_ _)); exact BK197.out) : p := h
theorem u76_ {p : Prop} (h : p := by (with_reducible repeat (first | refine ah ?_ _ | refine ac ?_ | refine ai ?_ _)); exact BK260.out) : p := h
theorem dg {p : Prop} (h : p := by simp) : p := h
theorem u78_ {p : Prop} (h : p := by first | rfl | (simp [cu, ct] <;> rfl) | (simp only [← hji3, ← hji19]; first | rfl | (simp [cu, ct] <;> rfl)) | (simp [*, cu, ct] <;> rfl) | (simp; exact dW _)) : p := h
theorem u79_ {p : Prop} (h : p := by (with_reducible repeat (first | apply Kd.R_alloc | apply Kd.R_drewN | apply Kd.R_drew)); exact HO_8.out) : p := h
theorem u80_ {p : Prop} (h : p := by first | rfl | (simp [cu, ct] <;> rfl) | (simp only [← hji20]; first | rfl | (simp [cu, ct] <;> rfl)) | (simp [*, cu, ct] <;> rfl) | (simp; exact dW _)) : p := h
theorem u81_ {p : Prop} (h : p := by first | rfl | (simp [cu, ct] <;> rfl) | (simp only [← hji12]; first | rfl | (simp [cu, ct] <;> rfl)) | (simp [*, cu, ct] <;> rfl) | (simp; exact dW _)) : p := h
theorem u82_ {p : Prop} (h : p := by first | rfl | (simp [cu, ct] <;> rfl) | (simp only [← hji3]; first | rfl | (simp [cu, ct] <;> rfl)) | (simp [*, cu, ct] <;> rfl) | (simp; exact dW _)) : p := h
theorem u83_ {p : Prop} (h : p := by simp only [Act.put, List.setIfInBounds_toArray, List.set_cons_zero, List.set_cons_succ, cP, dz]; rfl) : p := h
theorem cO {p : Prop} (h : p := by rfl) : p := h
theorem ji {p : Prop} (h : p := by exact (Reps.none _ _)) : p := h
theorem ln {p : Prop} (h : p := by exact (fun _ _ => trivial)) : p := h
theorem u87_ {p : Prop} (h : p := by (try simp only [List.map_toArray, List.map_cons, List.map_nil]); first | done | (simp only [hji19, hji3]; rfl) | rfl | (simp only [List.length_drop, List.length_take]; rfl)) : p := h
theorem u88_ {p : Prop} (h : p := by (try simp only [List.map_toArray, List.map_cons, List.map_nil]); first | done | (simp only [hji20]; rfl) | rfl | (simp only [List.length_drop, List.length_take]; rfl)) : p := h
theorem fM {p : Prop} (h : p := by exact (bw_ HB)) : p := h
theorem u90_ {p : Prop} (h : p := by (try simp only [List.map_toArray, List.map_cons, List.map_nil]); first | done | (simp only [hji3]; rfl) | rfl | (simp only [List.length_drop, List.length_take]; rfl)) : p := h
theorem u91_ {p : Prop} (h : p := by have := HLG.out.next (c.f0, tt) row.f0 (n : Int); simpa [Nat.add_assoc] using this) : p := h
theorem u92_ {p : Prop} (h : p := by (with_reducible repeat (first | apply Kd.R_alloc | apply Kd.R_drewN | apply Kd.R_drew)); exact Kd.R_mono HO125.out (fun _ hk => ⟨hk.1.1.1, ⟨hk.1.2, hk.2⟩⟩)) : p := h
theorem u93_ {p : Prop} (h : p := by (with_reducible repeat (first | apply Kd.R_alloc | apply Kd.R_drewN | apply Kd.R_drew)); exact Kd.R_mono HO136.out (fun _ hk => ⟨⟨hk.1.1.1, hk.1.2⟩, hk.2⟩)) : p := h
theorem u94_ {p : Prop} (h : p := by (with_reducible repeat (first | apply Kd.R_alloc | apply Kd.R_drewN | apply Kd.R_drew)); exact Kd.R_mono HO150.out (fun _ hk => ⟨hk.1.1.1, ⟨hk.1.2, hk.2⟩⟩)) : p := h
theorem u95_ {p : Prop} (h : p := by (with_reducible repeat (first | apply Kd.R_alloc | apply Kd.R_drewN | apply Kd.R_drew)); exact Kd.R_mono HO161.out (fun _ hk => ⟨⟨hk.1.1.1, hk.1.2⟩, hk.2⟩)) : p := h
theorem u96_ {p : Prop} (h : p := by repeat (first | exact (Kd.R_reads' HO538.out).2.2 | (with_reducible refine Kd.C_alloc ?_ _) | (with_reducible refine Kd.C_drewN ?_ _) | (with_reducible refine Kd.C_drew ?_))) : p := h
theorem u97_ {p : Prop} (h : p := by repeat (first | exact (Kd.S_reads' HO541.out).2.2 | (with_reducible refine Kd.C_alloc ?_ _) | (with_reducible refine Kd.C_drewN ?_ _) | (with_reducible refine Kd.C_drew ?_))) : p := h
theorem u98_ {p : Prop} (h : p := by repeat (first | exact (Kd.R_reads' HO544.out).2.2 | (with_reducible refine Kd.C_alloc ?_ _) | (with_reducible refine Kd.C_drewN ?_ _) | (with_reducible refine Kd.C_drew ?_))) : p := h
theorem u99_ {p : Prop} (h : p := by (with_reducible repeat (first | apply Kd.V_alloc | apply Kd.V_drewN | apply Kd.V_drew)); exact Kd.V_mono HO130.out (fun _ hk => ⟨hk.1.1, ⟨hk.2, hk.1.2⟩⟩)) : p := h
theorem u100_ {p : Prop} (h : p := by (with_reducible repeat (first | apply Kd.R_alloc | apply Kd.R_drewN | apply Kd.R_drew)); exact Kd.R_mono HO136.out (fun _ hk => ⟨hk.1.1, ⟨hk.2, hk.1.2⟩⟩)) : p := h
theorem u101_ {p : Prop} (h : p := by (with_reducible repeat (first | apply Kd.V_alloc | apply Kd.V_drewN | apply Kd.V_drew)); exact Kd.V_mono HO144.out (fun _ hk => ⟨hk.1.1, ⟨hk.2, hk.1.2⟩⟩)) : p := h
theorem u102_ {p : Prop} (h : p := by (with_reducible repeat (first | apply Kd.V_alloc | apply Kd.V_drewN | apply Kd.V_drew)); exact Kd.V_mono HO155.out (fun _ hk => ⟨hk.1.1, ⟨hk.2, hk.1.2⟩⟩)) : p := h
theorem u103_ {p : Prop} (h : p := by (with_reducible repeat (first | apply Kd.R_alloc | apply Kd.R_drewN | apply Kd.R_drew)); exact Kd.R_mono HO161.out (fun _ hk => ⟨hk.1.1, ⟨hk.2, hk.1.2⟩⟩)) : p := h
theorem u104_ {p : Prop} (h : p := by (with_reducible repeat (first | apply Kd.V_alloc | apply Kd.V_drewN | apply Kd.V_drew)); exact Kd.V_mono HO169.out (fun _ hk => ⟨hk.1.1, ⟨hk.2, hk.1.2⟩⟩)) : p := h
theorem u105_ {p : Prop} (h : p := by (with_reducible repeat (first | apply Kd.R_alloc | apply Kd.R_drewN | apply Kd.R_drew)); exact Kd.R_mono HO_0.out (fun _ hk => ⟨hk.1.1, ⟨hk.1.2, hk.2⟩⟩)) : p := h
theorem u106_ {p : Prop} (h : p := by (with_reducible repeat (first | apply Kd.R_alloc | apply Kd.R_drewN | apply Kd.R_drew)); exact Kd.R_mono HO_0.out (fun _ hk => ⟨⟨hk.1.1, hk.2⟩, hk.1.2⟩)) : p := h
theorem u107_ {p : Prop} (h : p := by (with_reducible repeat (first | apply Kd.R_alloc | apply Kd.R_drewN | apply Kd.R_drew)); exact Kd.R_mono HO_0.out (fun _ hk => ⟨⟨hk.1, hk.2.2⟩, hk.2.1⟩)) : p := h
theorem u108_ {p : Prop} (h : p := by (with_reducible repeat (first | apply Kd.S_alloc | apply Kd.S_drewN | apply Kd.S_drew)); exact Kd.S_mono HO_3.out (fun k_ hk => ⟨trivial, fun e_ => hk e_⟩)) : p := h
theorem lU {p : Prop} (h : p := by exact Kd.C_below HR0.out (bw_ HB)) : p := h
theorem u110_ {p : Prop} (h : p := by rw [← HRR.out]; exact Kd.S_mono hz.1 (fun k (hk : ok k ∨ w1.heap.size ≤ k) => hk.elim .inl (fun h => .inr (Nat.le_trans HB1.out.size h)))) : p := h
theorem u111_ {p : Prop} (h : p := by (try simp only [List.map_toArray, List.map_cons, List.map_nil, List.append_toArray, List.cons_append, List.nil_append]); rfl) : p := h
theorem qZ {p : Prop} (h : p := by first | rfl | (simp; done) | (go_simp; done) | (go_simp; rfl)) : p := h
theorem u113_ {p : Prop} (h : p := by have := HI.out; have := HL.out; have := HN1.out; simp only [List.length_append, List.length_nil, List.length_cons]; omega) : p := h
theorem u114_ {p : Prop} (h : p := by (with_reducible repeat (first | refine ah ?_ _ | refine ac ?_ | refine ai ?_ _)); exact BK105.out) : p := h
theorem u115_ {p : Prop} (h : p := by (with_reducible repeat (first | apply Kd.R_alloc | apply Kd.R_drewN | apply Kd.R_drew)); exact HO133.out) : p := h
theorem u116_ {p : Prop} (h : p := by (with_reducible repeat (first | apply Kd.R_alloc | apply Kd.R_drewN | apply Kd.R_drew)); exact HO125.out) : p := h
theorem u117_ {p : Prop} (h : p := by (with_reducible repeat (first | apply Kd.R_alloc | apply Kd.R_drewN | apply Kd.R_drew)); exact HO158.out) : p := h
theorem u118_ {p : Prop} (h : p := by (with_reducible repeat (first | apply Kd.R_alloc | apply Kd.R_drewN | apply Kd.R_drew)); exact HO150.out) : p := h
theorem u119_ {p : Prop} (h : p := by (with_reducible repeat (first | apply Kd.R_alloc | apply Kd.R_drewN | apply Kd.R_drew)); exact HO175.out) : p := h
theorem rn {p : Prop} (h : p := by have := HJ2.out; first | omega | exact Nat.le_refl _) : p := h
theorem u121_ {p : Prop} (h : p := by (with_reducible repeat (first | apply Kd.R_alloc | apply Kd.R_drewN | apply Kd.R_drew)); exact HO251.out) : p := h
theorem u122_ {p : Prop} (h : p := by (with_reducible repeat (first | apply Kd.R_alloc | apply Kd.R_drewN | apply Kd.R_drew)); exact HO421.out) : p := h
theorem u123_ {p : Prop} (h : p := by (with_reducible repeat (first | apply Kd.R_alloc | apply Kd.R_drewN | apply Kd.R_drew)); exact HO471.out) : p := h
theorem u124_ {p : Prop} (h : p := by have h1_ := HXL.out.1; have h2_ := HLQ.out; first | omega | (simp at h1_ ⊢; done) | (simp at h1_ ⊢; omega)) : p := h
theorem u125_ {p : Prop} (h : p := by exact Kd.S_alloc (Kd.S_mono (Kd.S_bound HS5.out) (fun k hk => ⟨.inl hk.1, by have := hk.2.2.1; omega⟩)) _) : p := h
theorem eY {p : Prop} (h : p := by go_num) : p := h
theorem fC {p : Prop} (h : p := by first | exact HK.out.1 | exact (show Kept w _ (fun k_ => P0_ k_) from u2_).1) : p := h
theorem u128_ {p : Prop} (h : p := by (with_reducible repeat (first | apply Kd.R_alloc | apply Kd.R_drewN | apply Kd.R_drew)); exact (Kd.R_mono (Kd.R_far (p := ⟨gb557, 3, none⟩) (Kd.R_far (p := ⟨gb557, 2, none⟩) (Kd.R_far (p := ⟨gb557, 1, none⟩) (Kd.R_far (p := ⟨gb557, 0, none⟩) (Kd.R_types HO549.out BK557.out bC) (fun _ hk => hk.2) (.slice Ao24 t547.length co24)) (fun _ hk => hk.2) (.slice Ao27 t550.length co27)) (fun _ hk => hk.2) (.slice Ao28 t553.length co28)) (fun _ hk => hk.2) (.int .i64 t556)) (fun _ h_ => h_.1))) : p := h
theorem u129_ {p : Prop} (h : p := by (with_reducible repeat (first | apply Kd.S_alloc | apply Kd.S_drewN | apply Kd.S_drew)); exact (Kd.S_mono (Kd.S_far (p := ⟨gb557, 3, none⟩) (Kd.S_far (p := ⟨gb557, 2, none⟩) (Kd.S_far (p := ⟨gb557, 1, none⟩) (Kd.S_far (p := ⟨gb557, 0, none⟩) (Kd.S_types HO552.out BK557.out bC) (fun _ hk => hk.2) (.slice Ao24 t547.length co24)) (fun _ hk => hk.2) (.slice Ao27 t550.length co27)) (fun _ hk => hk.2) (.slice Ao28 t553.length co28)) (fun _ hk => hk.2) (.int .i64 t556)) (fun _ h_ => h_.1))) : p := h
theorem u130_ {p : Prop} (h : p := by (with_reducible repeat (first | apply Kd.R_alloc | apply Kd.R_drewN | apply Kd.R_drew)); exact (Kd.R_mono (Kd.R_far (p := ⟨gb557, 3, none⟩) (Kd.R_far (p := ⟨gb557, 2, none⟩) (Kd.R_far (p := ⟨gb557, 1, none⟩) (Kd.R_far (p := ⟨gb557, 0, none⟩) (Kd.R_types HO555.out BK557.out bC) (fun _ hk => hk.2) (.slice Ao24 t547.length co24)) (fun _ hk => hk.2) (.slice Ao27 t550.length co27)) (fun _ hk => hk.2) (.slice Ao28 t553.length co28)) (fun _ hk => hk.2) (.int .i64 t556)) (fun _ h_ => h_.1))) : p := h
theorem u131_ {p : Prop} (h : p := by (with_reducible repeat (first | apply Kd.R_alloc | apply Kd.R_drewN | apply Kd.R_drew)); exact (Kd.R_mono (Kd.R_far (p := ⟨gb557, 3, none⟩) (Kd.R_far (p := ⟨gb557, 2, none⟩) (Kd.R_far (p := ⟨gb557, 1, none⟩) (Kd.R_far (p := ⟨gb557, 0, none⟩) (Kd.R_types HO549.out BK557.out bC) (fun _ hk => hk.2) (.slice Ao69 t547.length co69)) (fun _ hk => hk.2) (.slice Ao72 t550.length co72)) (fun _ hk => hk.2) (.slice Ao73 t553.length co73)) (fun _ hk => hk.2) (.int .i64 t556)) (fun _ h_ => h_.1))) : p := h
theorem u132_ {p : Prop} (h : p := by (with_reducible repeat (first | apply Kd.S_alloc | apply Kd.S_drewN | apply Kd.S_drew)); exact (Kd.S_mono (Kd.S_far (p := ⟨gb557, 3, none⟩) (Kd.S_far (p := ⟨gb557, 2, none⟩) (Kd.S_far (p := ⟨gb557, 1, none⟩) (Kd.S_far (p := ⟨gb557, 0, none⟩) (Kd.S_types HO552.out BK557.out bC) (fun _ hk => hk.2) (.slice Ao69 t547.length co69)) (fun _ hk => hk.2) (.slice Ao72 t550.length co72)) (fun _ hk => hk.2) (.slice Ao73 t553.length co73)) (fun _ hk => hk.2) (.int .i64 t556)) (fun _ h_ => h_.1))) : p := h
theorem u133_ {p : Prop} (h : p := by (with_reducible repeat (first | apply Kd.R_alloc | apply Kd.R_drewN | apply Kd.R_drew)); exact (Kd.R_mono (Kd.R_far (p := ⟨gb557, 3, none⟩) (Kd.R_far (p := ⟨gb557, 2, none⟩) (Kd.R_far (p := ⟨gb557, 1, none⟩) (Kd.R_far (p := ⟨gb557, 0, none⟩) (Kd.R_types HO555.out BK557.out bC) (fun _ hk => hk.2) (.slice Ao69 t547.length co69)) (fun _ hk => hk.2) (.slice Ao72 t550.length co72)) (fun _ hk => hk.2) (.slice Ao73 t553.length co73)) (fun _ hk => hk.2) (.int .i64 t556)) (fun _ h_ => h_.1))) : p := h
theorem u134_ {p : Prop} (h : p := by (with_reducible repeat (first | apply Kd.R_alloc | apply Kd.R_drewN | apply Kd.R_drew)); exact Kd.R_mono (Kd.R_far (p := ⟨gb399, 2, none⟩) (Kd.R_far (p := ⟨gb399, 1, none⟩) (Kd.R_far (p := ⟨gb399, 0, none⟩) (Kd.R_types HO_3.out BK399.out bC) (fun _ hk => hk.2) (.string ((ar l0 x10_1).f0))) (fun _ hk => hk.2) (.int .i64 ((ar l0 x10_1).f1))) (fun _ hk => hk.2) (.int .i64 ((ar l0 x10_1).f2))) (fun _ hk => trivial)) : p := h
theorem oQ {p : Prop} (h : p := by exact (fun k_ hk => ⟨(.inr (Nat.le_trans fC hk)), Kd.fresh' (Kd.R_lt u9_) k_ hk, Kd.fresh' (Kd.R_lt u36_) k_ hk⟩)) : p := h
theorem o4 {p : Prop} (h : p := by exact (fun k_ hk => ⟨(.inr (Nat.le_trans fC hk)), Kd.fresh' (Kd.R_lt u9_) k_ hk, Kd.fresh' (Kd.R_lt u37_) k_ hk⟩)) : p := h
end Go.Proofs.YtnjjdojonflckaaGreatDoor.PFnExactIndexOk
