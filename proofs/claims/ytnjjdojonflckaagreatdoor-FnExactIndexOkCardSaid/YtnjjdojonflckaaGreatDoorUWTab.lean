/- Words that a program of the kit printed; those that this claim does not name are left out. -/
import Derived.Test.YtnjjdojonflckaaGreatDoorUWLast
import Derived.Test.YtnjjdojonflckaaGreatDoorUWWords
namespace Go.Proofs.YtnjjdojonflckaaGreatDoorW.PrintLast
open Go.Proofs.YtnjjdojonflckaaGreatDoorW.PrintWords (aa)
def gF (md : Region.Mode) (o : Oper) : List Nat := (o.after.toList.filter (fun e => Region.binds md e)).map (fun e => e.on)
def mG (md : Region.Mode) (ops : Array Oper) (i : Nat) (oi : Oper) : List Nat := (List.range ops.size).filter fun j => !(j == i) && match ops[j]? with
 | some oj => !(oj.after.any (fun e => Region.binds md e && e.on == i) || oi.apart ops oj)
 | none => false
def dM (md : Region.Mode) (ops : Array Oper) : Bool × List (List Nat × List Nat) := (Region.noSelect ops, (List.range ops.size).map fun i => match ops[i]? with
 | some o => (gF md o, mG md ops i o)
 | none => ([], []))
def fE (T : List (List Nat × List Nat)) (l : List Bool) (i : Nat) : Bool := !l.getD i true && match T[i]? with
 | some r => r.1.all (fun j => l.getD j false)
 | none => false
def f9 (T : List (List Nat × List Nat)) (l : List Bool) : List Nat := (List.range T.length).filter (fE T l)
def nj (T : List (List Nat × List Nat)) (l : List Bool) (i : Nat) : Bool := match T[i]? with
 | some r => r.2.all (fun j => l.getD j true)
 | none => false
def jW (T : List (List Nat × List Nat)) (l : List Bool) : Bool := (List.range T.length).all fun j => !l.getD j false || match T[j]? with
 | some r => r.1.all (fun k => l.getD k false)
 | none => true
def iU (T : List (List Nat × List Nat)) (i : Nat) : Nat → Nat → Bool
 | 0, _ => false
 | fuel + 1, d => match T[d]? with
  | some r => r.1.any fun j => j == i || iU T i fuel j
  | none => false
def pn (T : List (List Nat × List Nat)) (l : List Bool) (ds : List Nat) (i : Nat) : Bool := ds.all fun d => l.getD d true || iU T i T.length d
section
variable {md : Region.Mode} {ops : Array Oper} {T : Bool × List (List Nat × List Nat)} {l l' li lj lk : Array Bool} {ds : List Nat} {i j k : Nat}
theorem gd (l : Array Bool) (j : Nat) (b : Bool) : l.getD j b = l.toList.getD j b := by simp [Array.getD_eq_getD_getElem?, List.getD_eq_getElem?_getD]
theorem l3 (o : Oper) (p : Nat → Bool) : o.after.all (fun e => !Region.binds md e || p e.on) = (gF md o).all p := by
 unfold gF
 rw [← Array.all_toList]; induction o.after.toList with
 | nil => rfl
 | cons e r ih =>
  rw [List.all_cons, ih, List.filter_cons]; cases h : Region.binds md e <;> simp
theorem pZ (o : Oper) (p : Nat → Bool) : o.after.any (fun e => Region.binds md e && p e.on) = (gF md o).any p := by
 unfold gF
 rw [← Array.any_toList]; induction o.after.toList with
 | nil => rfl
 | cons e r ih =>
  rw [List.any_cons, ih, List.filter_cons]; cases h : Region.binds md e <;> simp
theorem fB : (dM md ops).2.length = ops.size := by simp [dM]
theorem gK {o : Oper} (h : ops[i]? = some o) : (dM md ops).2[i]? = some (gF md o, mG md ops i o) := by
 have hi := (Array.getElem?_eq_some_iff.1 h).1; unfold dM
 rw [List.getElem?_map, List.getElem?_range hi, Option.map_some, h]
theorem gN (h : ops[i]? = none) : (dM md ops).2[i]? = none := by
 have hi : ops.size ≤ i := Array.getElem?_eq_none_iff.1 h; exact List.getElem?_eq_none (by rw [fB]; exact hi)
theorem ou : fE (dM md ops).2 l.toList i = (!l.getD i true && ((ops[i]?).map (·.after.all fun e => !Region.binds md e || l.getD e.on false)).getD false) := by
 unfold fE
 rw [gd]; cases h : ops[i]? with
 | none => rw [gN h]; rfl
 | some o =>
  rw [gK h]; simp only [Option.map_some, Option.getD_some]; rw [← l3]; simp only [gd]
theorem iz : Region.ready md ops l = f9 (dM md ops).2 l.toList := by
 unfold Region.ready f9
 rw [fB]; refine List.filter_congr (fun i _ => ?_); rw [ou]
theorem o5 : Region.free md ops l i = nj (dM md ops).2 l.toList i := by
 unfold Region.free nj
 cases h : ops[i]? with
 | none => rw [gN h]
 | some oi =>
  rw [gK h]; simp only [mG]; rw [List.all_filter]; congr 1
  funext j
  rw [gd]; cases hj : ops[j]? with
  | none => cases (j == i) <;> cases (l.toList.getD j true) <;> simp
  | some oj =>
   cases (j == i) <;> cases (l.toList.getD j true) <;> cases (oj.after.any (fun e => Region.binds md e && e.on == i) || oi.apart ops oj) <;> simp_all
theorem pO : Region.closedB md ops l = jW (dM md ops).2 l.toList := by
 unfold Region.closedB jW
 rw [fB]; congr 1
 funext j
 rw [gd]; cases h : ops[j]? with
 | none => rw [gN h]
 | some o =>
  rw [gK h]; simp only; rw [← l3]; simp only [gd]
theorem nh : ∀ (fuel d : Nat), Region.reachB md ops i fuel d = iU (dM md ops).2 i fuel d
 | 0, _ => rfl
 | fuel + 1, d => by
  unfold Region.reachB iU
  cases h : ops[d]? with
  | none => rw [gN h]
  | some o =>
   rw [gK h]; simp only; rw [← pZ]; congr 1
   funext e
   rw [nh fuel]
theorem rF : Region.lastB md ops l ds i = pn (dM md ops).2 l.toList ds i := by
 unfold Region.lastB pn
 rw [fB]; congr 1
 funext d
 rw [gd, nh]
theorem jq (h : fE T.2 l.toList i = true) (hT : dM md ops = T) : (Region.ready md ops l).contains i = true := by
 subst hT; rw [iz]; unfold f9
 rw [List.contains_iff_mem, List.mem_filter, List.mem_range]; refine ⟨?_, h⟩; unfold fE at h
 rw [Bool.and_eq_true] at h; cases hq : (dM md ops).2[i]? with
 | none => rw [hq] at h; simp at h
 | some r => exact (List.getElem?_eq_some_iff.1 hq).1
theorem kH (h : (l.toList.set i true == l'.toList) = true) : (l.setIfInBounds i true == l') = true := by
 rw [beq_iff_eq] at h ⊢; apply Array.ext'
 rw [Array.toList_setIfInBounds]; exact h
def anyT (T : Bool × List (List Nat × List Nat)) (l l' : List Bool) (i : Nat) : Bool := T.1 && nj T.2 l i && fE T.2 l i && (l.set i true == l')
theorem qR (hT : dM md ops = T) (h : anyT T l.toList l'.toList i = true) : anyB md ops l l' i = true := by
 simp only [anyT, Bool.and_eq_true] at h; obtain ⟨⟨⟨h1, h2⟩, h3⟩, h4⟩ := h; have h5 := jq h3 hT; have h6 := kH h4; subst hT; simp only [anyB, Bool.and_eq_true]; exact ⟨⟨⟨h1, by rw [o5]; exact h2⟩, h5⟩, h6⟩
def rv (T : Bool × List (List Nat × List Nat)) (ds : List Nat) (l l' : List Bool) (i : Nat) : Bool := T.1 && nj T.2 l i && fE T.2 l i && jW T.2 l && pn T.2 l ds i && (l.set i true == l')
theorem rK (hT : dM md ops = T) (h : rv T ds l.toList l'.toList i = true) : ni md ops ds l l' i = true := by
 simp only [rv, Bool.and_eq_true] at h; obtain ⟨⟨⟨⟨⟨h1, h2⟩, h3⟩, h4⟩, h5⟩, h6⟩ := h; have h7 := jq h3 hT; have h8 := kH h6; subst hT; simp only [ni, Bool.and_eq_true]; exact ⟨⟨⟨⟨⟨h1, by rw [o5]; exact h2⟩, h7⟩, by rw [pO]; exact h4⟩, by rw [rF]; exact h5⟩, h8⟩
theorem one_of (hT : dM md ops = T) (h : (f9 T.2 l.toList == [i] && l.toList.set i true == l'.toList) = true) : mA md ops l l' i = true := by
 simp only [Bool.and_eq_true] at h; obtain ⟨h1, h2⟩ := h; subst hT; simp only [mA, Bool.and_eq_true]; exact ⟨by rw [iz]; exact h1, kH h2⟩
theorem jk (hT : dM md ops = T) (h : (f9 T.2 l.toList == [i, j] && l.toList.set i true == li.toList && l.toList.set j true == lj.toList) = true) : (Region.ready md ops l == [i, j] && l.setIfInBounds i true == li && l.setIfInBounds j true == lj) = true := by
 simp only [Bool.and_eq_true] at h ⊢; obtain ⟨⟨h1, h2⟩, h3⟩ := h; subst hT; exact ⟨⟨by rw [iz]; exact h1, kH h2⟩, kH h3⟩
theorem rN (hT : dM md ops = T) (h : (f9 T.2 l.toList == []) = true) : (Region.ready md ops l == []) = true := by
 subst hT; rw [iz]; exact h
def upM (B : List Nat) (d : Nat) : List Nat → Nat
 | [] => 0
 | n :: r => (2 ^ n ||| (if n < d then B.getD n 0 else 0)) ||| upM B d r
def dt (T : List (List Nat × List Nat)) (B : List Nat) : Bool := (List.range T.length).all fun d => match T[d]? with
 | some r => (B.getD d 0 ||| upM B d r.1) == upM B d r.1
 | none => false
theorem oU {B : List Nat} {d i : Nat} : ∀ {ns : List Nat}, (upM B d ns).testBit i = true → ∃ n ∈ ns, n = i ∨ (n < d ∧ (B.getD n 0).testBit i = true)
 | [], h => by simp [upM] at h
 | n :: r, h => by
  unfold upM at h
  rw [Nat.testBit_or, Nat.testBit_or, Bool.or_eq_true, Bool.or_eq_true] at h; rcases h with (h | h) | h
  ·rw [Nat.testBit_two_pow] at h; exact ⟨n, List.mem_cons_self, .inl (by simpa using h)⟩
  ·by_cases hn : n < d
   ·rw [if_pos hn] at h; exact ⟨n, List.mem_cons_self, .inr ⟨hn, h⟩⟩
   ·rw [if_neg hn] at h; simp at h
  ·obtain ⟨m, hm, h2⟩ := oU h; exact ⟨m, List.mem_cons_of_mem _ hm, h2⟩
theorem lW {T : List (List Nat × List Nat)} {B : List Nat} (hB : dt T B = true) : ∀ (fuel d : Nat), d < fuel → d < T.length → (B.getD d 0).testBit i = true → iU T i fuel d = true
 | 0, d, h, _, _ => by omega
 | fuel + 1, d, h, hd, hb => by
  have h1 := List.all_eq_true.1 hB d (List.mem_range.2 hd); cases hr : T[d]? with
  | none => rw [hr] at h1; simp at h1
  | some r =>
   rw [hr] at h1; simp only [beq_iff_eq] at h1; have h2 : (upM B d r.1).testBit i = true := by rw [← h1, Nat.testBit_or, hb, Bool.true_or]
   obtain ⟨n, hn, h3⟩ := oU h2; unfold iU
   rw [hr]; simp only; rw [List.any_eq_true]; refine ⟨n, hn, ?_⟩; rcases h3 with rfl | ⟨h4, h5⟩
   ·simp
   ·rw [lW hB fuel n (by omega) (by omega) h5, Bool.or_true]
def lastW (T : List (List Nat × List Nat)) (B : List Nat) (l : List Bool) (ds : List Nat) (i : Nat) : Bool := ds.all fun d => l.getD d true || (decide (d < T.length) && (B.getD d 0).testBit i)
def oT (T : Bool × List (List Nat × List Nat)) (B : List Nat) (ds : List Nat) (l l' : List Bool) (i : Nat) : Bool := T.1 && nj T.2 l i && fE T.2 l i && jW T.2 l && lastW T.2 B l ds i && (l.set i true == l')
theorem ql {B : List Nat} (hT : dM md ops = T) (hB : dt T.2 B = true) (h : oT T B ds l.toList l'.toList i = true) : ni md ops ds l l' i = true := by
 refine rK hT ?_; simp only [oT, rv, Bool.and_eq_true] at h ⊢; obtain ⟨⟨⟨⟨⟨h1, h2⟩, h3⟩, h4⟩, h5⟩, h6⟩ := h; refine ⟨⟨⟨⟨⟨h1, h2⟩, h3⟩, h4⟩, ?_⟩, h6⟩; unfold lastW at h5
 unfold pn
 rw [List.all_eq_true] at h5 ⊢; intro d hd; have h7 := h5 d hd; rw [Bool.or_eq_true, Bool.and_eq_true, decide_eq_true_eq] at h7; rcases h7 with h7 | ⟨h8, h9⟩
 ·rw [h7, Bool.true_or]
 ·rw [lW hB _ d h8 h8 h9, Bool.or_true]
theorem bO {P : Program} {Q : Exit → Act → World → Prop} {S : World → Prop} {n : Nat} {a : Act} {w : World} {B : List Nat} (hT : dM md ops = T) (hB : dt T.2 B = true) (h : aa (dM md ops = T) → aa (dt T.2 B = true) → aD P md ops Q S ds n l a w) : aD P md ops Q S ds n l a w := h ⟨hT⟩ ⟨hB⟩
end
def gT : Code → Nat → Option (Array Oper)
 | .region id ops _, k => if id == k then some ops else none
 | .seq a b, k => match gT a k with
  | some o => some o
  | none => gT b k
 | .cond _ a b, k => match gT a k with
  | some o => some o
  | none => gT b k
 | .block _ c, k => gT c k
 | .loop c, k => gT c k
 | .scope c, k => gT c k
 | .rangeFunc _ _ a b, k => match gT a k with
  | some o => some o
  | none => gT b k
 | _, _ => none
def fS (f : Func) (k : Nat) : Array Oper := ((f.body.bind fun c => gT c k)).getD #[]
end Go.Proofs.YtnjjdojonflckaaGreatDoorW.PrintLast
