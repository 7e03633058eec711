/- The plain law of FnExactIndexTerms: whatever the input, the printed function of this law answers true after enough rounds; conditions: only the sizes and kinds that the law's Pure states. -/
import Derived.Test.YtnjjdojonflckaaGreatDoorVSFnExactIndexTerms
import Derived.Lib.IndexBytes
import Derived.Lib.SplitLaws
import Derived.Lib.AtoiAllCases
import Derived.Lib.ItoaNum
import Derived.Lib.Strings
namespace Go.Proofs.YtnjjdojonflckaaGreatDoor.Pure
open Go.RowKit Go.Proofs.YtnjjdojonflckaaGreatDoor.PFnExactIndexTerms Go.Proofs.YtnjjdojonflckaaGreatDoorW.PrintWords Go.Proofs.YtnjjdojonflckaaGreatDoorW.PrintLast Go.Proofs.YtnjjdojonflckaaGreatDoorW.PrintMore
set_option linter.unusedVariables false
set_option linter.unusedSimpArgs false
def fy (x : dE) : Prop := x.f0.size ≤ 9223372036854775807 ∧ x.f1.size ≤ 9223372036854775807
def ix (x : d8) : S92 := ⟨x.f0, x.f1, x.f2⟩
def fo (x : d8) : Prop := x.f0.size ≤ 9223372036854775807
theorem jR (s : ByteArray) : s.toList = s.data.toList := by
 exact ByteArray.toList_eq s
theorem toList_inj {a b : ByteArray} : a.toList = b.toList ↔ a = b := by
 rw [jR, jR]; constructor
 ·intro h; exact ByteArray.ext (Array.toList_inj.1 h)
 ·rintro rfl; rfl
open Classical in
theorem o3 (x y : S92) : dQ.f x.f0 x.f1 x.f2 y.f0 y.f1 y.f2 = some (decide (x = y)) := by
 obtain ⟨a0, a1, a2⟩ := x; obtain ⟨b0, b1, b2⟩ := y; simp only [dQ.f, toList_inj]; by_cases h0 : a0 = b0
 case neg => simp [h0]
 by_cases h1 : a1 = b1
 case neg => simp [h0, h1]
 by_cases h2 : a2 = b2
 case neg => simp [h0, h1, h2]
 simp [h0, h1, h2]
theorem eu (l : List S92) (j : Nat) (h : j < l.length) : an l (j : Int) = l[j] := by
 unfold an; simp [List.getD_eq_getElem?_getD, List.getElem?_eq_getElem h]
theorem b6 {α : Type} {a b : List α} {j : Nat} (ha : j < a.length) (hb : j < b.length) : a.drop j = b.drop j ↔ a[j] = b[j] ∧ a.drop (j + 1) = b.drop (j + 1) := by
 rw [List.drop_eq_getElem_cons ha, List.drop_eq_getElem_cons hb, List.cons.injEq]
theorem cm {g : Nat → Option Bool} {p : Prop} [Decidable p] (h : ¬ p) (k : Ev g false) : Ev g (decide p) := by
 rw [decide_eq_false h]; exact k
theorem cL {g : Nat → Option Bool} {p q : Prop} [Decidable p] [Decidable q] (h : p ↔ q) (k : Ev g (decide p)) : Ev g (decide q) := by
 have : decide p = decide q := decide_eq_decide.2 h; rw [← this]; exact k
theorem iW {g : Nat → Option Bool} {p : Prop} [Decidable p] (h : p) (k : Ev g true) : Ev g (decide p) := by
 rw [decide_eq_true h]; exact k
theorem bC {x : Int} (h0 : -9223372036854775808 ≤ x) (h1 : x ≤ 9223372036854775807) : wrap64 x = x := by unfold wrap64; omega
theorem bY (j : Nat) (h : j < 9223372036854775807) : wrap64 ((j : Int) + 1) = ((j + 1 : Nat) : Int) := by rw [bC (by omega) (by omega)]; omega
open Classical in
theorem nk (a b : List S92) (hn : a.length < 4611686018427387904) (hl : a.length = b.length) : ∀ (d i : Nat), i + d = a.length →
  Ev (fun k => aA.l0 k a b (i : Int)) (decide (a.drop i = b.drop i)) := by
 intro d; induction d with
 | zero =>
  intro i hi; refine Ev.step (fun k => aA.l0.eq_2 _ _ _ _) ?_; simp only [if_neg (show ¬ ((i : Int) < (a.length : Int)) by omega)]; rw [List.drop_of_length_le (by omega), List.drop_of_length_le (by omega)]; exact iW rfl (Ev.now _)
 | succ d ih =>
  intro i hi; refine Ev.step (fun k => aA.l0.eq_2 _ _ _ _) ?_; simp only [if_pos (show ((i : Int) < (a.length : Int)) by omega), if_pos (show 0 ≤ (i : Int) by omega), if_pos (show ((i : Int) < (b.length : Int)) by omega), bY i (by omega), eu a i (by omega), eu b i (by omega), o3, Option.bind_some, decide_eq_true_eq]; have hs := b6 (a := a) (b := b) (show i < a.length by omega) (show i < b.length by omega); by_cases h : a[i] = b[i]
  ·simp only [if_pos h]; exact cL (hs.trans ⟨fun h1 => h1.2, fun h1 => ⟨h, h1⟩⟩).symm (ih (i + 1) (by omega))
  ·simp only [if_neg h]; exact cm (fun h1 => h (hs.1 h1).1) (Ev.now _)
open Classical in
theorem nh (a b : List S92) (hn : a.length < 4611686018427387904) : Ev (fun k => aA.f k a b) (decide (a = b)) := by
 simp only [aA.f]; by_cases hl : a.length = b.length
 ·simp only [if_pos (show (a.length : Int) = (b.length : Int) by omega)]; exact nk a b hn hl a.length 0 (by omega)
 ·simp only [if_neg (show ¬ (a.length : Int) = (b.length : Int) by omega)]; exact cm (fun h => hl (by rw [h])) (Ev.now _)
open Classical in
theorem lO (a : List S92) (hn : a.length < 4611686018427387904) : Ev (fun k => aA.f k a a) true := by
 have := nh a a hn; rwa [decide_eq_true rfl] at this
theorem qi (l : List S76) (j : Nat) (h : j < l.length) : aj l (j : Int) = l[j] := by
 unfold aj; simp [List.getD_eq_getElem?_getD, List.getElem?_eq_getElem h]
theorem rN (l : List S50) (j : Nat) (h : j < l.length) : bb l (j : Int) = l[j] := by
 unfold bb; simp [List.getD_eq_getElem?_getD, List.getElem?_eq_getElem h]
theorem nw (a : List Int) (hn : a.length ≤ 1048576) : Ev (fun k => ca.f k a a) true := by
 have main : ∀ (d i : Nat), i + d = a.length → Ev (fun k => ca.l0 k a a (i : Int)) true := by
  intro d; induction d with
  | zero =>
   intro i hi; refine Ev.step (fun k => ca.l0.eq_2 _ _ _ _) ?_; simp only [if_neg (show ¬ ((i : Int) < (a.length : Int)) by omega)]; exact Ev.now _
  | succ d ih =>
   intro i hi; refine Ev.step (fun k => ca.l0.eq_2 _ _ _ _) ?_; simp only [if_pos (show ((i : Int) < (a.length : Int)) by omega), if_pos (show 0 ≤ (i : Int) by omega), bY i (by omega), if_true]; exact ih (i + 1) (by omega)
 simp only [ca.f, if_true]; exact main a.length 0 (by omega)
def oG (x : S50) : Prop := x.f1.length ≤ 1048576
theorem nL (x : S50) (hx : oG x) : Ev (fun k => eh.f k x.f0 x.f1 x.f0 x.f1) true := by
 simp only [eh.f, if_true]; refine Ev.bind (nw x.f1 hx) ?_; simp only [if_true]; exact Ev.now _
theorem mw (a : List S50) (hn : a.length ≤ 1048576) (hs : ∀ x ∈ a, oG x) : Ev (fun k => aX.f k a a) true := by
 have main : ∀ (d i : Nat), i + d = a.length → Ev (fun k => aX.l0 k a a (i : Int)) true := by
  intro d; induction d with
  | zero =>
   intro i hi; refine Ev.step (fun k => aX.l0.eq_2 _ _ _ _) ?_; simp only [if_neg (show ¬ ((i : Int) < (a.length : Int)) by omega)]; exact Ev.now _
  | succ d ih =>
   intro i hi; refine Ev.step (fun k => aX.l0.eq_2 _ _ _ _) ?_; simp only [if_pos (show ((i : Int) < (a.length : Int)) by omega), if_pos (show 0 ≤ (i : Int) by omega), bY i (by omega), rN a i (by omega)]; refine Ev.bind (nL a[i] (hs _ (List.getElem_mem _))) ?_; simp only [if_true]; exact ih (i + 1) (by omega)
 simp only [aX.f, if_true]; exact main a.length 0 (by omega)
def pq (x : S76) : Prop := x.f2.length ≤ 1048576 ∧ ∀ p ∈ x.f2, oG p
theorem mV (x : S76) (hx : pq x) : Ev (fun k => dM.f k x.f0 x.f1 x.f2 x.f0 x.f1 x.f2) true := by
 simp only [dM.f, if_true]; refine Ev.bind (mw x.f2 hx.1 hx.2) ?_; simp only [if_true]; exact Ev.now _
theorem l6 (a : List S76) (hn : a.length ≤ 1048576) (hs : ∀ x ∈ a, pq x) : Ev (fun k => aD.f k a a) true := by
 have main : ∀ (d i : Nat), i + d = a.length → Ev (fun k => aD.l0 k a a (i : Int)) true := by
  intro d; induction d with
  | zero =>
   intro i hi; refine Ev.step (fun k => aD.l0.eq_2 _ _ _ _) ?_; simp only [if_neg (show ¬ ((i : Int) < (a.length : Int)) by omega)]; exact Ev.now _
  | succ d ih =>
   intro i hi; refine Ev.step (fun k => aD.l0.eq_2 _ _ _ _) ?_; simp only [if_pos (show ((i : Int) < (a.length : Int)) by omega), if_pos (show 0 ≤ (i : Int) by omega), bY i (by omega), qi a i (by omega)]; refine Ev.bind (mV a[i] (hs _ (List.getElem_mem _))) ?_; simp only [if_true]; exact ih (i + 1) (by omega)
 simp only [aD.f, if_true]; exact main a.length 0 (by omega)
theorem se (l : List S46) (j : Nat) (h : j < l.length) : ac l (j : Int) = l[j] := by
 unfold ac; simp [List.getD_eq_getElem?_getD, List.getElem?_eq_getElem h]
open Classical in
theorem qI (x y : S86) : ef.f x.f0 x.f1 y.f0 y.f1 = some (decide (x = y)) := by
 obtain ⟨a0, a1⟩ := x; obtain ⟨b0, b1⟩ := y; simp only [ef.f, toList_inj]; by_cases h0 : a0 = b0
 case neg => simp [h0]
 by_cases h1 : a1 = b1
 case neg => simp [h0, h1]
 simp [h0, h1]
theorem fh (l : List S86) (j : Nat) (h : j < l.length) : ah l (j : Int) = l[j] := by
 unfold ah; simp [List.getD_eq_getElem?_getD, List.getElem?_eq_getElem h]
open Classical in
theorem o5 (a b : List S86) (hn : a.length < 4611686018427387904) (hl : a.length = b.length) : ∀ (d i : Nat), i + d = a.length →
  Ev (fun k => aV.l0 k a b (i : Int)) (decide (a.drop i = b.drop i)) := by
 intro d; induction d with
 | zero =>
  intro i hi; refine Ev.step (fun k => aV.l0.eq_2 _ _ _ _) ?_; simp only [if_neg (show ¬ ((i : Int) < (a.length : Int)) by omega)]; rw [List.drop_of_length_le (by omega), List.drop_of_length_le (by omega)]; exact iW rfl (Ev.now _)
 | succ d ih =>
  intro i hi; refine Ev.step (fun k => aV.l0.eq_2 _ _ _ _) ?_; simp only [if_pos (show ((i : Int) < (a.length : Int)) by omega), if_pos (show 0 ≤ (i : Int) by omega), if_pos (show ((i : Int) < (b.length : Int)) by omega), bY i (by omega), fh a i (by omega), fh b i (by omega), qI, Option.bind_some, decide_eq_true_eq]; have hs := b6 (a := a) (b := b) (show i < a.length by omega) (show i < b.length by omega); by_cases h : a[i] = b[i]
  ·simp only [if_pos h]; exact cL (hs.trans ⟨fun h1 => h1.2, fun h1 => ⟨h, h1⟩⟩).symm (ih (i + 1) (by omega))
  ·simp only [if_neg h]; exact cm (fun h1 => h (hs.1 h1).1) (Ev.now _)
open Classical in
theorem oK (a b : List S86) (hn : a.length < 4611686018427387904) : Ev (fun k => aV.f k a b) (decide (a = b)) := by
 simp only [aV.f]; by_cases hl : a.length = b.length
 ·simp only [if_pos (show (a.length : Int) = (b.length : Int) by omega)]; exact o5 a b hn hl a.length 0 (by omega)
 ·simp only [if_neg (show ¬ (a.length : Int) = (b.length : Int) by omega)]; exact cm (fun h => hl (by rw [h])) (Ev.now _)
open Classical in
theorem qM (k1 : ByteArray) (c1 : List S86) (k2 : ByteArray) (c2 : List S86) (hn : c1.length < 4611686018427387904) : Ev (fun k => dP.f k k1 c1 k2 c2) (decide (k1 = k2 ∧ c1 = c2)) := by
 simp only [dP.f, toList_inj]; by_cases h : k1 = k2
 ·simp only [if_pos h]; refine Ev.bind (oK c1 c2 hn) ?_; by_cases h2 : c1 = c2
  ·simp only [decide_eq_true h2, if_true]; exact iW ⟨h, h2⟩ (Ev.now _)
  ·simp only [decide_eq_false h2]; exact cm (fun h3 => h2 h3.2) (Ev.now _)
 ·simp only [if_neg h]; exact cm (fun h3 => h h3.1) (Ev.now _)
open Classical in
theorem oB (k1 : ByteArray) (c1 : List S86) (hn : c1.length < 4611686018427387904) : Ev (fun k => dP.f k k1 c1 k1 c1) true := by
 have := qM k1 c1 k1 c1 hn; rwa [decide_eq_true ⟨rfl, rfl⟩] at this
def rB (x : S46) : Prop := x.f1.f1.length ≤ 1048576
theorem oU (x : S46) (hx : rB x) : Ev (fun k => eL.f k x.f0 x.f1.f0 x.f1.f1 x.f0 x.f1.f0 x.f1.f1) true := by
 simp only [eL.f, if_true]; refine Ev.bind (oB x.f1.f0 x.f1.f1 (by unfold rB at hx; omega)) ?_; simp only [if_true]; exact Ev.now _
theorem nQ (a : List S46) (hn : a.length ≤ 1048576) (hs : ∀ x ∈ a, rB x) : Ev (fun k => a7.f k a a) true := by
 have main : ∀ (d i : Nat), i + d = a.length → Ev (fun k => a7.l0 k a a (i : Int)) true := by
  intro d; induction d with
  | zero =>
   intro i hi; refine Ev.step (fun k => a7.l0.eq_2 _ _ _ _) ?_; simp only [if_neg (show ¬ ((i : Int) < (a.length : Int)) by omega)]; exact Ev.now _
  | succ d ih =>
   intro i hi; refine Ev.step (fun k => a7.l0.eq_2 _ _ _ _) ?_; simp only [if_pos (show ((i : Int) < (a.length : Int)) by omega), if_pos (show 0 ≤ (i : Int) by omega), bY i (by omega), se a i (by omega)]; refine Ev.bind (oU a[i] (hs _ (List.getElem_mem _))) ?_; simp only [if_true]; exact ih (i + 1) (by omega)
 simp only [a7.f, if_true]; exact main a.length 0 (by omega)
structure fN (F : List S92) (R : List S46) (E : List S76) : Prop where
 f : F.length ≤ 1048576
 fs : ∀ x ∈ F, x.f0.size ≤ 1048576
 r : R.length ≤ 1048576
 rs : ∀ x ∈ R, x.f1.f0.size ≤ 1048576 ∧ x.f1.f1.length ≤ 1048576 ∧ ∀ c ∈ x.f1.f1, c.f0.size ≤ 1048576 ∧ c.f1.size ≤ 1048576
 e : E.length ≤ 1048576
 es : ∀ x ∈ E, x.f2.length ≤ 1048576 ∧ ∀ p ∈ x.f2, p.f1.length ≤ 1048576
theorem m6 {F : List S92} {R : List S46} {E : List S76} (h : fN F R E) (n : Int) : Ev (fun k => dL.f k F R E n F R E n) true := by
 simp only [dL.f]; refine Ev.bind (lO F (by have := h.f; omega)) ?_; simp only [if_true]; refine Ev.bind (nQ R h.r (fun x hx => (h.rs x hx).2.1)) ?_; simp only [if_true]; refine Ev.bind (l6 E h.e (fun x hx => h.es x hx)) ?_; simp only [if_true]; exact Ev.now _
def km (x : dE) : S86 := ⟨x.f0, x.f1⟩
def fC (x : d8) : Prop := x.f0.size ≤ 1048576
def eT (x : dX) : Prop := x.f1.length ≤ 1048576
def eM (x : dV) : Prop := x.f2.length ≤ 1048576 ∧ ∀ p ∈ x.f2, eT p
def ft (x : dE) : Prop := x.f0.size ≤ 1048576 ∧ x.f1.size ≤ 1048576
def fB (x : dW) : Prop := x.f1.f0.size ≤ 1048576 ∧ x.f1.f1.length ≤ 1048576 ∧ ∀ c ∈ x.f1.f1, ft c
def o6 (F : List d8) (R : List dW) (E : List dV) : Prop :=
 (F.length ≤ 1048576 ∧ ∀ x ∈ F, fC x) ∧ (R.length ≤ 1048576 ∧ ∀ x ∈ R, fB x) ∧ (E.length ≤ 1048576 ∧ ∀ x ∈ E, eM x)
def iQ (x : dX) : S50 := ⟨x.f0, x.f1⟩
def fw (x : dV) : S76 := ⟨x.f0, x.f1, x.f2.map iQ⟩
def ko (x : dW) : S46 := ⟨x.f0, ⟨x.f1.f0, x.f1.f1.map km⟩⟩
theorem qk {F : List d8} {R : List dW} {E : List dV} (h : o6 F R E) : fN (F.map ix) (R.map ko) (E.map fw) := by
 obtain ⟨⟨f1, f2⟩, ⟨r1, r2⟩, ⟨e1, e2⟩⟩ := h; refine ⟨by rw [List.length_map]; exact f1, fun x hx => ?_, by rw [List.length_map]; exact r1, fun x hx => ?_, by rw [List.length_map]; exact e1, fun x hx => ?_⟩
 ·obtain ⟨y, hy, rfl⟩ := List.mem_map.1 hx; exact f2 y hy
 ·obtain ⟨y, hy, rfl⟩ := List.mem_map.1 hx; obtain ⟨a, b, c⟩ := r2 y hy; refine ⟨a, by show (y.f1.f1.map km).length ≤ _; rw [List.length_map]; exact b, fun z hz => ?_⟩; obtain ⟨u, hu, rfl⟩ := List.mem_map.1 hz; exact c u hu
 ·obtain ⟨y, hy, rfl⟩ := List.mem_map.1 hx; obtain ⟨a, b⟩ := e2 y hy; refine ⟨by show (y.f2.map iQ).length ≤ _; rw [List.length_map]; exact a, fun z hz => ?_⟩; obtain ⟨u, hu, rfl⟩ := List.mem_map.1 hz; exact b u hu
theorem jq (l : List d8) (j : Nat) (h : j < l.length) : dl l (j : Int) = l[j] := by
 unfold dl; simp [List.getD_eq_getElem?_getD, List.getElem?_eq_getElem h]
theorem oX (x : d8) (a : Int) (hx : fo x) (h0 : 0 ≤ a) (h1 : a ≤ 1048576) : ∃ r, dA.f x.f0 x.f1 x.f2 a = some r ∧ (r = -1 ∨ (0 ≤ r ∧ r ≤ a ∧ fC x)) := by
 unfold fo at hx
 unfold fC
 unfold dA.f
 rw [bC (x := a - (x.f0.size : Int)) (by omega) (by omega)]; by_cases h20 : a - (x.f0.size : Int) < 0
 ·rw [if_pos h20]; exact ⟨_, rfl, .inl rfl⟩
 rw [if_neg h20]; exact ⟨_, rfl, .inr ⟨by omega, by omega, by omega⟩⟩
theorem dT {α : Type} {l : List α} {j : Nat} {n : α} (h : j < l.length) : n ∈ l.drop j ↔ n = l[j] ∨ n ∈ l.drop (j + 1) := by
 rw [List.drop_eq_getElem_cons h, List.mem_cons]
theorem nK (l : List d8) (hl : l.length ≤ 1048576) (hg : ∀ x ∈ l, fo x) : ∀ (d i : Nat) (a : Int), i + d = l.length → 0 ≤ a → a ≤ 1048576 →
  ∃ r, Ev (fun k => bm.l0 k l a (i : Int)) r ∧ (r = -1 ∨ (0 ≤ r ∧ r ≤ a ∧ ∀ x ∈ l.drop i, fC x)) := by
 intro d; induction d with
 | zero =>
  intro i a hi h0 h1; refine ⟨a, Ev.step (fun k => bm.l0.eq_2 _ _ _ _) ?_, .inr ⟨h0, Int.le_refl _, fun x hx => ?_⟩⟩
  ·simp only [if_neg (show ¬ ((i : Int) < (l.length : Int)) by omega)]; exact Ev.now _
  ·rw [List.drop_of_length_le (by omega)] at hx; cases hx
 | succ d ih =>
  intro i a hi h0 h1; obtain ⟨r1, hr1, hc⟩ := oX l[i] a (hg _ (List.getElem_mem _)) h0 h1; rcases hc with hc | ⟨hc0, hc1, hc2⟩
  ·refine ⟨-1, Ev.step (fun k => bm.l0.eq_2 _ _ _ _) ?_, .inl rfl⟩; simp only [if_pos (show ((i : Int) < (l.length : Int)) by omega), if_pos (show 0 ≤ (i : Int) by omega), jq l i (by omega), hr1, Option.bind_some, hc]; exact Ev.now _
  ·obtain ⟨r, hr, hq⟩ := ih (i + 1) r1 (by omega) hc0 (by omega); refine ⟨r, Ev.step (fun k => bm.l0.eq_2 _ _ _ _) ?_, ?_⟩
   ·simp only [if_pos (show ((i : Int) < (l.length : Int)) by omega), if_pos (show 0 ≤ (i : Int) by omega), jq l i (by omega), hr1, Option.bind_some, if_neg (show ¬ r1 < 0 by omega), bY i (by omega)]; exact hr
   ·rcases hq with hq | ⟨q0, q1, q2⟩
    ·exact .inl hq
    ·refine .inr ⟨q0, by omega, fun x hx => ?_⟩; rcases (dT (show i < l.length by omega)).1 hx with hx | hx
     ·rw [hx]; exact hc2
     ·exact q2 x hx
theorem nT (l : List d8) (hl : l.length ≤ 9223372036854775807) (hg : ∀ x ∈ l, fo x) (a : Int) (h0 : 0 ≤ a) (h1 : a ≤ 1048576) :
  ∃ r, Ev (fun k => bm.f k l a) r ∧ (r = -1 ∨ (0 ≤ r ∧ r ≤ a ∧ l.length ≤ 1048576 ∧ ∀ x ∈ l, fC x)) := by
 simp only [bm.f, bC (x := a - (l.length : Int)) (by omega) (by omega)]; by_cases h2 : a - (l.length : Int) < 0
 ·simp only [if_pos h2]; exact ⟨-1, Ev.now _, .inl rfl⟩
 ·simp only [if_neg h2]; obtain ⟨r, hr, hq⟩ := nK l (by omega) hg l.length 0 (a - (l.length : Int)) (by omega) (by omega) (by omega); refine ⟨r, hr, ?_⟩; rcases hq with hq | ⟨q0, q1, q2⟩
  ·exact .inl hq
  ·exact .inr ⟨q0, by omega, by omega, q2⟩
theorem js (l : List dV) (j : Nat) (h : j < l.length) : cZ l (j : Int) = l[j] := by
 unfold cZ; simp [List.getD_eq_getElem?_getD, List.getElem?_eq_getElem h]
theorem lu (l : List dX) (j : Nat) (h : j < l.length) : dB l (j : Int) = l[j] := by
 unfold dB; simp [List.getD_eq_getElem?_getD, List.getElem?_eq_getElem h]
def gK (x : dX) : Prop := x.f1.length ≤ 9223372036854775807
theorem qD (x : dX) (a : Int) (hx : gK x) (h0 : 0 ≤ a) (h1 : a ≤ 1048576) : ∃ r, Ev (fun _ : Nat => dG.f x.f0 x.f1 a) r ∧ (r = -1 ∨ (0 ≤ r ∧ r ≤ a ∧ eT x)) := by
 unfold gK at hx
 unfold eT
 simp only [dG.f, ea.f, bC (x := a - (x.f1.length : Int)) (by omega) (by omega)]; by_cases h2 : a - (x.f1.length : Int) < 0
 ·simp only [if_pos h2, Option.bind_some, if_pos (show (-1 : Int) < 0 by omega)]; exact ⟨-1, Ev.now _, .inl rfl⟩
 ·simp only [if_neg h2, Option.bind_some]; exact ⟨_, Ev.now _, .inr ⟨by omega, by omega, by omega⟩⟩
theorem oq (l : List dX) (hl : l.length ≤ 1048576) (hg : ∀ x ∈ l, gK x) : ∀ (d i : Nat) (a : Int), i + d = l.length → 0 ≤ a → a ≤ 1048576 →
  ∃ r, Ev (fun k => bN.l0 k l a (i : Int)) r ∧ (r = -1 ∨ (0 ≤ r ∧ r ≤ a ∧ ∀ x ∈ l.drop i, eT x)) := by
 intro d; induction d with
 | zero =>
  intro i a hi h0 h1; refine ⟨a, Ev.step (fun k => bN.l0.eq_2 _ _ _ _) ?_, .inr ⟨h0, Int.le_refl _, fun x hx => ?_⟩⟩
  ·simp only [if_neg (show ¬ ((i : Int) < (l.length : Int)) by omega)]; exact Ev.now _
  ·rw [List.drop_of_length_le (by omega)] at hx; cases hx
 | succ d ih =>
  intro i a hi h0 h1; obtain ⟨r1, hr1, hc⟩ := qD l[i] a (hg _ (List.getElem_mem _)) h0 h1; rcases hc with hc | ⟨hc0, hc1, hc2⟩
  ·refine ⟨-1, Ev.step (fun k => bN.l0.eq_2 _ _ _ _) ?_, .inl rfl⟩; simp only [if_pos (show ((i : Int) < (l.length : Int)) by omega), if_pos (show 0 ≤ (i : Int) by omega), lu l i (by omega)]; refine Ev.bind hr1 ?_; simp only [if_pos (show r1 < 0 by omega)]; exact Ev.now _
  ·obtain ⟨r, hr, hq⟩ := ih (i + 1) r1 (by omega) hc0 (by omega); refine ⟨r, Ev.step (fun k => bN.l0.eq_2 _ _ _ _) ?_, ?_⟩
   ·simp only [if_pos (show ((i : Int) < (l.length : Int)) by omega), if_pos (show 0 ≤ (i : Int) by omega), lu l i (by omega), bY i (by omega)]; refine Ev.bind hr1 ?_; simp only [if_neg (show ¬ r1 < 0 by omega)]; exact hr
   ·rcases hq with hq | ⟨q0, q1, q2⟩
    ·exact .inl hq
    ·refine .inr ⟨q0, by omega, fun x hx => ?_⟩; rcases (dT (show i < l.length by omega)).1 hx with hx | hx
     ·rw [hx]; exact hc2
     ·exact q2 x hx
theorem oH (l : List dX) (hl : l.length ≤ 9223372036854775807) (hg : ∀ x ∈ l, gK x) (a : Int) (h0 : 0 ≤ a) (h1 : a ≤ 1048576) :
  ∃ r, Ev (fun k => bN.f k l a) r ∧ (r = -1 ∨ (0 ≤ r ∧ r ≤ a ∧ l.length ≤ 1048576 ∧ ∀ x ∈ l, eT x)) := by
 simp only [bN.f, bC (x := a - (l.length : Int)) (by omega) (by omega)]; by_cases h2 : a - (l.length : Int) < 0
 ·simp only [if_pos h2]; exact ⟨-1, Ev.now _, .inl rfl⟩
 ·simp only [if_neg h2]; obtain ⟨r, hr, hq⟩ := oq l (by omega) hg l.length 0 (a - (l.length : Int)) (by omega) (by omega) (by omega); refine ⟨r, hr, ?_⟩; rcases hq with hq | ⟨q0, q1, q2⟩
  ·exact .inl hq
  ·exact .inr ⟨q0, by omega, by omega, q2⟩
def gZ (x : dV) : Prop := x.f0.size ≤ 9223372036854775807 ∧ x.f1.size ≤ 9223372036854775807 ∧ x.f2.length ≤ 9223372036854775807 ∧ ∀ p ∈ x.f2, gK p
theorem o9 (x : dV) (a : Int) (hx : gZ x) (h0 : 0 ≤ a) (h1 : a ≤ 1048576) : ∃ r, Ev (fun k => dw.f k x.f0 x.f1 x.f2 a) r ∧ (r = -1 ∨ (0 ≤ r ∧ r ≤ a ∧ eM x)) := by
 obtain ⟨w0, w1, w2, w3⟩ := hx; simp only [dw.f, bC (x := a - (x.f0.size : Int)) (by omega) (by omega)]; by_cases h2 : a - (x.f0.size : Int) < 0
 ·simp only [if_pos h2]; exact ⟨-1, Ev.now _, .inl rfl⟩
 simp only [if_neg h2, bC (x := a - (x.f0.size : Int) - (x.f1.size : Int)) (by omega) (by omega)]; by_cases h3 : a - (x.f0.size : Int) - (x.f1.size : Int) < 0
 ·simp only [if_pos h3]; exact ⟨-1, Ev.now _, .inl rfl⟩
 simp only [if_neg h3]; obtain ⟨r, hr, hq⟩ := oH x.f2 w2 w3 (a - (x.f0.size : Int) - (x.f1.size : Int)) (by omega) (by omega); rcases hq with hq | ⟨q0, q1, q2, q3⟩
 ·exact ⟨-1, Ev.bind hr (by simp only [if_pos (show r < 0 by omega)]; exact Ev.now _), .inl rfl⟩
 ·exact ⟨r, Ev.bind hr (by simp only [if_neg (show ¬ r < 0 by omega)]; exact Ev.now _), .inr ⟨q0, by omega, q2, q3⟩⟩
theorem n5 (l : List dV) (hl : l.length ≤ 1048576) (hg : ∀ x ∈ l, gZ x) : ∀ (d i : Nat) (a : Int), i + d = l.length → 0 ≤ a → a ≤ 1048576 →
  ∃ r, Ev (fun k => bz.l0 k l a (i : Int)) r ∧ (r = -1 ∨ (0 ≤ r ∧ r ≤ a ∧ ∀ x ∈ l.drop i, eM x)) := by
 intro d; induction d with
 | zero =>
  intro i a hi h0 h1; refine ⟨a, Ev.step (fun k => bz.l0.eq_2 _ _ _ _) ?_, .inr ⟨h0, Int.le_refl _, fun x hx => ?_⟩⟩
  ·simp only [if_neg (show ¬ ((i : Int) < (l.length : Int)) by omega)]; exact Ev.now _
  ·rw [List.drop_of_length_le (by omega)] at hx; cases hx
 | succ d ih =>
  intro i a hi h0 h1; obtain ⟨r1, hr1, hc⟩ := o9 l[i] a (hg _ (List.getElem_mem _)) h0 h1; rcases hc with hc | ⟨hc0, hc1, hc2⟩
  ·refine ⟨-1, Ev.step (fun k => bz.l0.eq_2 _ _ _ _) ?_, .inl rfl⟩; simp only [if_pos (show ((i : Int) < (l.length : Int)) by omega), if_pos (show 0 ≤ (i : Int) by omega), js l i (by omega)]; refine Ev.bind hr1 ?_; simp only [if_pos (show r1 < 0 by omega)]; exact Ev.now _
  ·obtain ⟨r, hr, hq⟩ := ih (i + 1) r1 (by omega) hc0 (by omega); refine ⟨r, Ev.step (fun k => bz.l0.eq_2 _ _ _ _) ?_, ?_⟩
   ·simp only [if_pos (show ((i : Int) < (l.length : Int)) by omega), if_pos (show 0 ≤ (i : Int) by omega), js l i (by omega), bY i (by omega)]; refine Ev.bind hr1 ?_; simp only [if_neg (show ¬ r1 < 0 by omega)]; exact hr
   ·rcases hq with hq | ⟨q0, q1, q2⟩
    ·exact .inl hq
    ·refine .inr ⟨q0, by omega, fun x hx => ?_⟩; rcases (dT (show i < l.length by omega)).1 hx with hx | hx
     ·rw [hx]; exact hc2
     ·exact q2 x hx
theorem od (l : List dV) (hl : l.length ≤ 9223372036854775807) (hg : ∀ x ∈ l, gZ x) (a : Int) (h0 : 0 ≤ a) (h1 : a ≤ 1048576) :
  ∃ r, Ev (fun k => bz.f k l a) r ∧ (r = -1 ∨ (0 ≤ r ∧ r ≤ a ∧ l.length ≤ 1048576 ∧ ∀ x ∈ l, eM x)) := by
 simp only [bz.f, bC (x := a - (l.length : Int)) (by omega) (by omega)]; by_cases h2 : a - (l.length : Int) < 0
 ·simp only [if_pos h2]; exact ⟨-1, Ev.now _, .inl rfl⟩
 ·simp only [if_neg h2]; obtain ⟨r, hr, hq⟩ := n5 l (by omega) hg l.length 0 (a - (l.length : Int)) (by omega) (by omega) (by omega); refine ⟨r, hr, ?_⟩; rcases hq with hq | ⟨q0, q1, q2⟩
  ·exact .inl hq
  ·exact .inr ⟨q0, by omega, by omega, q2⟩
theorem mR (l : List dW) (j : Nat) (h : j < l.length) : cY l (j : Int) = l[j] := by
 unfold cY; simp [List.getD_eq_getElem?_getD, List.getElem?_eq_getElem h]
theorem lh (l : List dE) (j : Nat) (h : j < l.length) : dZ l (j : Int) = l[j] := by
 unfold dZ; simp [List.getD_eq_getElem?_getD, List.getElem?_eq_getElem h]
theorem qg (x : dE) (a : Int) (hx : fy x) (h0 : 0 ≤ a) (h1 : a ≤ 1048576) : ∃ r, dK.f x.f0 x.f1 a = some r ∧ (r = -1 ∨ (0 ≤ r ∧ r ≤ a ∧ ft x)) := by
 unfold fy at hx
 unfold ft
 unfold dK.f
 rw [bC (x := a - (x.f0.size : Int)) (by omega) (by omega)]; by_cases h20 : a - (x.f0.size : Int) < 0
 ·rw [if_pos h20]; exact ⟨_, rfl, .inl rfl⟩
 rw [if_neg h20]; rw [bC (x := a - (x.f0.size : Int) - (x.f1.size : Int)) (by omega) (by omega)]; by_cases h21 : a - (x.f0.size : Int) - (x.f1.size : Int) < 0
 ·rw [if_pos h21]; exact ⟨_, rfl, .inl rfl⟩
 rw [if_neg h21]; exact ⟨_, rfl, .inr ⟨by omega, by omega, by omega⟩⟩
theorem oz (l : List dE) (hl : l.length ≤ 1048576) (hg : ∀ x ∈ l, fy x) : ∀ (d i : Nat) (a : Int), i + d = l.length → 0 ≤ a → a ≤ 1048576 →
  ∃ r, Ev (fun k => bL.l0 k l a (i : Int)) r ∧ (r = -1 ∨ (0 ≤ r ∧ r ≤ a ∧ ∀ x ∈ l.drop i, ft x)) := by
 intro d; induction d with
 | zero =>
  intro i a hi h0 h1; refine ⟨a, Ev.step (fun k => bL.l0.eq_2 _ _ _ _) ?_, .inr ⟨h0, Int.le_refl _, fun x hx => ?_⟩⟩
  ·simp only [if_neg (show ¬ ((i : Int) < (l.length : Int)) by omega)]; exact Ev.now _
  ·rw [List.drop_of_length_le (by omega)] at hx; cases hx
 | succ d ih =>
  intro i a hi h0 h1; obtain ⟨r1, hr1, hc⟩ := qg l[i] a (hg _ (List.getElem_mem _)) h0 h1; rcases hc with hc | ⟨hc0, hc1, hc2⟩
  ·refine ⟨-1, Ev.step (fun k => bL.l0.eq_2 _ _ _ _) ?_, .inl rfl⟩; simp only [if_pos (show ((i : Int) < (l.length : Int)) by omega), if_pos (show 0 ≤ (i : Int) by omega), lh l i (by omega), hr1, Option.bind_some, hc]; exact Ev.now _
  ·obtain ⟨r, hr, hq⟩ := ih (i + 1) r1 (by omega) hc0 (by omega); refine ⟨r, Ev.step (fun k => bL.l0.eq_2 _ _ _ _) ?_, ?_⟩
   ·simp only [if_pos (show ((i : Int) < (l.length : Int)) by omega), if_pos (show 0 ≤ (i : Int) by omega), lh l i (by omega), hr1, Option.bind_some, if_neg (show ¬ r1 < 0 by omega), bY i (by omega)]; exact hr
   ·rcases hq with hq | ⟨q0, q1, q2⟩
    ·exact .inl hq
    ·refine .inr ⟨q0, by omega, fun x hx => ?_⟩; rcases (dT (show i < l.length by omega)).1 hx with hx | hx
     ·rw [hx]; exact hc2
     ·exact q2 x hx
theorem oL (l : List dE) (hl : l.length ≤ 9223372036854775807) (hg : ∀ x ∈ l, fy x) (a : Int) (h0 : 0 ≤ a) (h1 : a ≤ 1048576) :
  ∃ r, Ev (fun k => bL.f k l a) r ∧ (r = -1 ∨ (0 ≤ r ∧ r ≤ a ∧ l.length ≤ 1048576 ∧ ∀ x ∈ l, ft x)) := by
 simp only [bL.f, bC (x := a - (l.length : Int)) (by omega) (by omega)]; by_cases h2 : a - (l.length : Int) < 0
 ·simp only [if_pos h2]; exact ⟨-1, Ev.now _, .inl rfl⟩
 ·simp only [if_neg h2]; obtain ⟨r, hr, hq⟩ := oz l (by omega) hg l.length 0 (a - (l.length : Int)) (by omega) (by omega) (by omega); refine ⟨r, hr, ?_⟩; rcases hq with hq | ⟨q0, q1, q2⟩
  ·exact .inl hq
  ·exact .inr ⟨q0, by omega, by omega, q2⟩
theorem rI (key : ByteArray) (l : List dE) (hk : key.size ≤ 9223372036854775807) (hl : l.length ≤ 9223372036854775807) (hg : ∀ x ∈ l, fy x) (a : Int) (h0 : 0 ≤ a) (h1 : a ≤ 1048576) :
  ∃ r, Ev (fun k => ej.f k key l a) r ∧ (r = -1 ∨ (0 ≤ r ∧ r ≤ a ∧ key.size ≤ 1048576 ∧ l.length ≤ 1048576 ∧ ∀ x ∈ l, ft x)) := by
 simp only [ej.f, bC (x := a - (key.size : Int)) (by omega) (by omega)]; by_cases h2 : a - (key.size : Int) < 0
 ·simp only [if_pos h2]; exact ⟨-1, Ev.now _, .inl rfl⟩
 ·simp only [if_neg h2]; obtain ⟨r, hr, hq⟩ := oL l hl hg (a - (key.size : Int)) (by omega) (by omega); rcases hq with hq | ⟨q0, q1, q2, q3⟩
  ·refine ⟨-1, Ev.bind hr ?_, .inl rfl⟩; simp only [hq, if_pos (show (-1 : Int) < 0 by omega)]; exact Ev.now _
  ·refine ⟨r, Ev.bind hr ?_, .inr ⟨q0, by omega, by omega, q2, q3⟩⟩; simp only [if_neg (show ¬ r < 0 by omega)]; exact Ev.now _
def kd (x : dW) : Prop := x.f1.f0.size ≤ 9223372036854775807 ∧ x.f1.f1.length ≤ 9223372036854775807 ∧ ∀ c ∈ x.f1.f1, fy c
theorem ro (x : dW) (a : Int) (hx : kd x) (h0 : 0 ≤ a) (h1 : a ≤ 1048576) : ∃ r, Ev (fun k => ec.f k x.f0 x.f1.f0 x.f1.f1 a) r ∧ (r = -1 ∨ (0 ≤ r ∧ r ≤ a ∧ fB x)) := by
 obtain ⟨w0, w1, w2⟩ := hx; simp only [ec.f]; obtain ⟨r, hr, hq⟩ := rI x.f1.f0 x.f1.f1 w0 w1 w2 a h0 h1; rcases hq with hq | ⟨q0, q1, q2, q3, q4⟩
 ·exact ⟨-1, Ev.bind hr (by simp only [if_pos (show r < 0 by omega)]; exact Ev.now _), .inl rfl⟩
 ·exact ⟨r, Ev.bind hr (by simp only [if_neg (show ¬ r < 0 by omega)]; exact Ev.now _), .inr ⟨q0, q1, q2, q3, q4⟩⟩
theorem pO (l : List dW) (hl : l.length ≤ 1048576) (hg : ∀ x ∈ l, kd x) : ∀ (d i : Nat) (a : Int), i + d = l.length → 0 ≤ a → a ≤ 1048576 →
  ∃ r, Ev (fun k => bT.l0 k l a (i : Int)) r ∧ (r = -1 ∨ (0 ≤ r ∧ r ≤ a ∧ ∀ x ∈ l.drop i, fB x)) := by
 intro d; induction d with
 | zero =>
  intro i a hi h0 h1; refine ⟨a, Ev.step (fun k => bT.l0.eq_2 _ _ _ _) ?_, .inr ⟨h0, Int.le_refl _, fun x hx => ?_⟩⟩
  ·simp only [if_neg (show ¬ ((i : Int) < (l.length : Int)) by omega)]; exact Ev.now _
  ·rw [List.drop_of_length_le (by omega)] at hx; cases hx
 | succ d ih =>
  intro i a hi h0 h1; obtain ⟨r1, hr1, hc⟩ := ro l[i] a (hg _ (List.getElem_mem _)) h0 h1; rcases hc with hc | ⟨hc0, hc1, hc2⟩
  ·refine ⟨-1, Ev.step (fun k => bT.l0.eq_2 _ _ _ _) ?_, .inl rfl⟩; simp only [if_pos (show ((i : Int) < (l.length : Int)) by omega), if_pos (show 0 ≤ (i : Int) by omega), mR l i (by omega)]; refine Ev.bind hr1 ?_; simp only [if_pos (show r1 < 0 by omega)]; exact Ev.now _
  ·obtain ⟨r, hr, hq⟩ := ih (i + 1) r1 (by omega) hc0 (by omega); refine ⟨r, Ev.step (fun k => bT.l0.eq_2 _ _ _ _) ?_, ?_⟩
   ·simp only [if_pos (show ((i : Int) < (l.length : Int)) by omega), if_pos (show 0 ≤ (i : Int) by omega), mR l i (by omega), bY i (by omega)]; refine Ev.bind hr1 ?_; simp only [if_neg (show ¬ r1 < 0 by omega)]; exact hr
   ·rcases hq with hq | ⟨q0, q1, q2⟩
    ·exact .inl hq
    ·refine .inr ⟨q0, by omega, fun x hx => ?_⟩; rcases (dT (show i < l.length by omega)).1 hx with hx | hx
     ·rw [hx]; exact hc2
     ·exact q2 x hx
theorem qb (l : List dW) (hl : l.length ≤ 9223372036854775807) (hg : ∀ x ∈ l, kd x) (a : Int) (h0 : 0 ≤ a) (h1 : a ≤ 1048576) :
  ∃ r, Ev (fun k => bT.f k l a) r ∧ (r = -1 ∨ (0 ≤ r ∧ r ≤ a ∧ l.length ≤ 1048576 ∧ ∀ x ∈ l, fB x)) := by
 simp only [bT.f, bC (x := a - (l.length : Int)) (by omega) (by omega)]; by_cases h2 : a - (l.length : Int) < 0
 ·simp only [if_pos h2]; exact ⟨-1, Ev.now _, .inl rfl⟩
 ·simp only [if_neg h2]; obtain ⟨r, hr, hq⟩ := pO l (by omega) hg l.length 0 (a - (l.length : Int)) (by omega) (by omega) (by omega); refine ⟨r, hr, ?_⟩; rcases hq with hq | ⟨q0, q1, q2⟩
  ·exact .inl hq
  ·exact .inr ⟨q0, by omega, by omega, q2⟩
theorem oW (F : List d8) (R : List dW) (E : List dV) (n : Int) (hF : F.length ≤ 9223372036854775807 ∧ ∀ x ∈ F, fo x) (hR : R.length ≤ 9223372036854775807 ∧ ∀ x ∈ R, kd x) (hE : E.length ≤ 9223372036854775807 ∧ ∀ x ∈ E, gZ x) :
  ∃ r, Ev (fun k => dx.f k F R E n 1048576) r ∧ (r = -1 ∨ (0 ≤ r ∧ o6 F R E)) := by
 simp only [dx.f]; obtain ⟨r0, h0, q0⟩ := nT F hF.1 hF.2 1048576 (by omega) (by omega); rcases q0 with q0 | ⟨a0, a1, a2, a3⟩
 ·exact ⟨-1, Ev.bind h0 (by simp only [if_pos (show r0 < 0 by omega)]; exact Ev.now _), .inl rfl⟩
 obtain ⟨r1, h1, q1⟩ := qb R hR.1 hR.2 r0 a0 (by omega); rcases q1 with q1 | ⟨b0, b1, b2, b3⟩
 ·refine ⟨-1, Ev.bind h0 ?_, .inl rfl⟩; simp only [if_neg (show ¬ r0 < 0 by omega)]; exact Ev.bind h1 (by simp only [if_pos (show r1 < 0 by omega)]; exact Ev.now _)
 obtain ⟨r2, h2, q2⟩ := od E hE.1 hE.2 r1 b0 (by omega); rcases q2 with q2 | ⟨c0, c1, c2, c3⟩
 ·refine ⟨-1, Ev.bind h0 ?_, .inl rfl⟩; simp only [if_neg (show ¬ r0 < 0 by omega)]; refine Ev.bind h1 ?_; simp only [if_neg (show ¬ r1 < 0 by omega)]; exact Ev.bind h2 (by simp only [if_pos (show r2 < 0 by omega)]; exact Ev.now _)
 ·refine ⟨r2, Ev.bind h0 ?_, .inr ⟨c0, ⟨a2, a3⟩, ⟨b2, b3⟩, ⟨c2, c3⟩⟩⟩; simp only [if_neg (show ¬ r0 < 0 by omega)]; refine Ev.bind h1 ?_; simp only [if_neg (show ¬ r1 < 0 by omega)]; exact Ev.bind h2 (by simp only [if_neg (show ¬ r2 < 0 by omega)]; exact Ev.now _)
theorem dU {α : Type} (l m : List α) (i : Nat) (v : α) (hl : i < l.length) (hm : i < m.length) (hv : m[i] = v) (h : l.take i = m.take i) : (l.set i v).take (i + 1) = m.take (i + 1) := by
 rw [List.take_add_one, List.take_add_one, List.take_set_of_le (Nat.le_refl _), h]; congr 1
 rw [List.getElem?_set_self hl, List.getElem?_eq_getElem hm, hv]
theorem bJ (i : Nat) : ((i : Int)).toNat = i := by simp
theorem nI (l : List d8) (hn : l.length ≤ 1048576) : ∀ (d i : Nat) (acc : List S92), i + d = l.length → acc.length = l.length → acc.take i = (l.map ix).take i →
  Ev (fun k => bI.l0 k l acc (i : Int)) (l.map ix) := by
 intro d; induction d with
 | zero =>
  intro i acc hi hl ht; refine Ev.step (fun k => bI.l0.eq_2 _ _ _ _) ?_; simp only [if_neg (show ¬ ((i : Int) < (l.length : Int)) by omega)]; have : acc = l.map ix := by rw [List.take_of_length_le (by omega), List.take_of_length_le (by rw [List.length_map]; omega)] at ht; exact ht
  rw [this]; exact Ev.now _
 | succ d ih =>
  intro i acc hi hl ht; refine Ev.step (fun k => bI.l0.eq_2 _ _ _ _) ?_; simp only [if_pos (show ((i : Int) < (l.length : Int)) by omega), if_pos (show 0 ≤ (i : Int) by omega), eo.f, Option.bind_some, if_pos (show ((i : Int) < (acc.length : Int)) by omega), bY i (by omega), bJ, jq l i (by omega)]; exact ih (i + 1) _ (by omega) (by simp [hl]) (dU _ _ _ _ (by omega) (by rw [List.length_map]; omega) (by rw [List.getElem_map]; rfl) ht)
theorem oe (l : List d8) (hn : l.length ≤ 1048576) : Ev (fun k => bI.f k l) (l.map ix) := by
 simp only [bI.f, if_pos (show 0 ≤ (l.length : Int) by omega), bJ]; refine Ev.congr (f := fun k => bI.l0 k l (List.replicate l.length z92) 0) (fun k => if_pos (by omega)) ?_; exact nI l hn l.length 0 _ (by omega) (by simp) rfl
theorem je (l : List Int) (j : Nat) (h : j < l.length) : rd l (j : Int) = l[j] := by
 unfold rd; simp [List.getD_eq_getElem?_getD, List.getElem?_eq_getElem h]
theorem o7 (l : List Int) (hn : l.length ≤ 1048576) : Ev (fun k => ch.f k l) l := by
 have main : ∀ (d i : Nat) (acc : List Int), i + d = l.length → acc.length = l.length → acc.take i = l.take i → Ev (fun k => ch.l0 k l acc (i : Int)) l := by
  intro d; induction d with
  | zero =>
   intro i acc hi hl ht; refine Ev.step (fun k => ch.l0.eq_2 _ _ _ _) ?_; simp only [if_neg (show ¬ ((i : Int) < (l.length : Int)) by omega)]; have : acc = l := by rw [List.take_of_length_le (by omega), List.take_of_length_le (by omega)] at ht; exact ht
   rw [this]; exact Ev.now _
  | succ d ih =>
   intro i acc hi hl ht; refine Ev.step (fun k => ch.l0.eq_2 _ _ _ _) ?_; simp only [if_pos (show ((i : Int) < (l.length : Int)) by omega), if_pos (show 0 ≤ (i : Int) by omega), if_pos (show ((i : Int) < (acc.length : Int)) by omega), bY i (by omega), bJ, je l i (by omega)]; exact ih (i + 1) _ (by omega) (by simp [hl]) (dU _ _ _ _ (by omega) (by omega) rfl ht)
 simp only [ch.f, if_pos (show 0 ≤ (l.length : Int) by omega), bJ]; refine Ev.congr (f := fun k => ch.l0 k l (List.replicate l.length 0) 0) (fun k => if_pos (by omega)) ?_; exact main l.length 0 _ (by omega) (by simp) rfl
theorem p3 (x : dX) (hx : eT x) : Ev (fun k => en.f k x.f0 x.f1) ((iQ x).f0, (iQ x).f1) := by
 simp only [en.f]; exact Ev.bind (o7 x.f1 hx) (Ev.now _)
theorem oO (l : List dX) (hn : l.length ≤ 1048576) (hs : ∀ x ∈ l, eT x) : ∀ (d i : Nat) (acc : List S50), i + d = l.length → acc.length = l.length → acc.take i = (l.map iQ).take i →
  Ev (fun k => bU.l0 k l acc (i : Int)) (l.map iQ) := by
 intro d; induction d with
 | zero =>
  intro i acc hi hl ht; refine Ev.step (fun k => bU.l0.eq_2 _ _ _ _) ?_; simp only [if_neg (show ¬ ((i : Int) < (l.length : Int)) by omega)]; have : acc = l.map iQ := by rw [List.take_of_length_le (by omega), List.take_of_length_le (by rw [List.length_map]; omega)] at ht; exact ht
  rw [this]; exact Ev.now _
 | succ d ih =>
  intro i acc hi hl ht; refine Ev.step (fun k => bU.l0.eq_2 _ _ _ _) ?_; simp only [if_pos (show ((i : Int) < (l.length : Int)) by omega), if_pos (show 0 ≤ (i : Int) by omega), bY i (by omega), bJ, lu l i (by omega)]; refine Ev.bind (p3 l[i] (hs _ (List.getElem_mem _))) ?_; simp only [if_pos (show ((i : Int) < (acc.length : Int)) by omega)]; exact ih (i + 1) _ (by omega) (by simp [hl]) (dU _ _ _ _ (by omega) (by rw [List.length_map]; omega) (by simp [iQ]) ht)
theorem oC (l : List dX) (hn : l.length ≤ 1048576) (hs : ∀ x ∈ l, eT x) : Ev (fun k => bU.f k l) (l.map iQ) := by
 simp only [bU.f, if_pos (show 0 ≤ (l.length : Int) by omega), bJ]; refine Ev.congr (f := fun k => bU.l0 k l (List.replicate l.length z50) 0) (fun k => if_pos (by omega)) ?_; exact oO l hn hs l.length 0 _ (by omega) (by simp) rfl
theorem oI (x : dV) (hx : eM x) : Ev (fun k => dN.f k x.f0 x.f1 x.f2) ((fw x).f0, (fw x).f1, (fw x).f2) := by
 simp only [dN.f]; exact Ev.bind (oC x.f2 hx.1 hx.2) (Ev.now _)
theorem nG (l : List dV) (hn : l.length ≤ 1048576) (hs : ∀ x ∈ l, eM x) : ∀ (d i : Nat) (acc : List S76), i + d = l.length → acc.length = l.length → acc.take i = (l.map fw).take i →
  Ev (fun k => bH.l0 k l acc (i : Int)) (l.map fw) := by
 intro d; induction d with
 | zero =>
  intro i acc hi hl ht; refine Ev.step (fun k => bH.l0.eq_2 _ _ _ _) ?_; simp only [if_neg (show ¬ ((i : Int) < (l.length : Int)) by omega)]; have : acc = l.map fw := by rw [List.take_of_length_le (by omega), List.take_of_length_le (by rw [List.length_map]; omega)] at ht; exact ht
  rw [this]; exact Ev.now _
 | succ d ih =>
  intro i acc hi hl ht; refine Ev.step (fun k => bH.l0.eq_2 _ _ _ _) ?_; simp only [if_pos (show ((i : Int) < (l.length : Int)) by omega), if_pos (show 0 ≤ (i : Int) by omega), bY i (by omega), bJ, js l i (by omega)]; refine Ev.bind (oI l[i] (hs _ (List.getElem_mem _))) ?_; simp only [if_pos (show ((i : Int) < (acc.length : Int)) by omega)]; exact ih (i + 1) _ (by omega) (by simp [hl]) (dU _ _ _ _ (by omega) (by rw [List.length_map]; omega) (by simp [fw]) ht)
theorem n9 (l : List dV) (hn : l.length ≤ 1048576) (hs : ∀ x ∈ l, eM x) : Ev (fun k => bH.f k l) (l.map fw) := by
 simp only [bH.f, if_pos (show 0 ≤ (l.length : Int) by omega), bJ]; refine Ev.congr (f := fun k => bH.l0 k l (List.replicate l.length z76) 0) (fun k => if_pos (by omega)) ?_; exact nG l hn hs l.length 0 _ (by omega) (by simp) rfl
theorem oM (l : List dE) (hn : l.length ≤ 1048576) : ∀ (d i : Nat) (acc : List S86), i + d = l.length → acc.length = l.length → acc.take i = (l.map km).take i →
  Ev (fun k => bP.l0 k l acc (i : Int)) (l.map km) := by
 intro d; induction d with
 | zero =>
  intro i acc hi hl ht; refine Ev.step (fun k => bP.l0.eq_2 _ _ _ _) ?_; simp only [if_neg (show ¬ ((i : Int) < (l.length : Int)) by omega)]; have : acc = l.map km := by rw [List.take_of_length_le (by omega), List.take_of_length_le (by rw [List.length_map]; omega)] at ht; exact ht
  rw [this]; exact Ev.now _
 | succ d ih =>
  intro i acc hi hl ht; refine Ev.step (fun k => bP.l0.eq_2 _ _ _ _) ?_; simp only [if_pos (show ((i : Int) < (l.length : Int)) by omega), if_pos (show 0 ≤ (i : Int) by omega), eR.f, Option.bind_some, if_pos (show ((i : Int) < (acc.length : Int)) by omega), bY i (by omega), bJ, lh l i (by omega)]; exact ih (i + 1) _ (by omega) (by simp [hl]) (dU _ _ _ _ (by omega) (by rw [List.length_map]; omega) (by rw [List.getElem_map]; rfl) ht)
theorem oP (l : List dE) (hn : l.length ≤ 1048576) : Ev (fun k => bP.f k l) (l.map km) := by
 simp only [bP.f, if_pos (show 0 ≤ (l.length : Int) by omega), bJ]; refine Ev.congr (f := fun k => bP.l0 k l (List.replicate l.length z86) 0) (fun k => if_pos (by omega)) ?_; exact oM l hn l.length 0 _ (by omega) (by simp) rfl
theorem rL (key : ByteArray) (l : List dE) (hn : l.length ≤ 1048576) : Ev (fun k => eN.f k key l) (key, l.map km) := by
 simp only [eN.f]; exact Ev.bind (oP l hn) (Ev.now _)
theorem rm (x : dW) (hx : fB x) : Ev (fun k => eJ.f k x.f0 x.f1.f0 x.f1.f1) ((ko x).f0, (ko x).f1.f0, (ko x).f1.f1) := by
 simp only [eJ.f]; exact Ev.bind (rL x.f1.f0 x.f1.f1 hx.2.1) (Ev.now _)
theorem qF (l : List dW) (hn : l.length ≤ 1048576) (hs : ∀ x ∈ l, fB x) : ∀ (d i : Nat) (acc : List S46), i + d = l.length → acc.length = l.length → acc.take i = (l.map ko).take i →
  Ev (fun k => cg.l0 k l acc (i : Int)) (l.map ko) := by
 intro d; induction d with
 | zero =>
  intro i acc hi hl ht; refine Ev.step (fun k => cg.l0.eq_2 _ _ _ _) ?_; simp only [if_neg (show ¬ ((i : Int) < (l.length : Int)) by omega)]; have : acc = l.map ko := by rw [List.take_of_length_le (by omega), List.take_of_length_le (by rw [List.length_map]; omega)] at ht; exact ht
  rw [this]; exact Ev.now _
 | succ d ih =>
  intro i acc hi hl ht; refine Ev.step (fun k => cg.l0.eq_2 _ _ _ _) ?_; simp only [if_pos (show ((i : Int) < (l.length : Int)) by omega), if_pos (show 0 ≤ (i : Int) by omega), bY i (by omega), bJ, mR l i (by omega)]; refine Ev.bind (rm l[i] (hs _ (List.getElem_mem _))) ?_; simp only [if_pos (show ((i : Int) < (acc.length : Int)) by omega)]; exact ih (i + 1) _ (by omega) (by simp [hl]) (dU _ _ _ _ (by omega) (by rw [List.length_map]; omega) (by simp [ko]) ht)
theorem qt (l : List dW) (hn : l.length ≤ 1048576) (hs : ∀ x ∈ l, fB x) : Ev (fun k => cg.f k l) (l.map ko) := by
 simp only [cg.f, if_pos (show 0 ≤ (l.length : Int) by omega), bJ]; refine Ev.congr (f := fun k => cg.l0 k l (List.replicate l.length z46) 0) (fun k => if_pos (by omega)) ?_; exact qF l hn hs l.length 0 _ (by omega) (by simp) rfl
theorem ov (F : List d8) (R : List dW) (E : List dV) (n : Int) (h : o6 F R E) : Ev (fun k => di.f k F R E n) (F.map ix, R.map ko, E.map fw, n) := by
 simp only [di.f]; refine Ev.bind (oe F h.1.1) ?_; refine Ev.bind (qt R h.2.1.1 h.2.1.2) ?_; refine Ev.bind (n9 E h.2.2.1 h.2.2.2) ?_; exact Ev.now _
def fQ (f : S92) : Prop := (f.f1 = 1 ∧ 1 ≤ f.f2 ∧ f.f2 ≤ 9) ∨ (2 ≤ f.f1 ∧ f.f1 ≤ 3 ∧ f.f2 = 0)
def l5 (c : Int) : Prop := 48 ≤ c ∧ c ≤ 57
instance (c : Int) : Decidable (l5 c) := by unfold l5; infer_instance
def kG (c : Int) : Prop := 97 ≤ c ∧ c ≤ 122
instance (c : Int) : Decidable (kG c) := by unfold kG; infer_instance
def dz (l : List Int) (j : Nat) : Prop := (∀ (i : Nat) (h : i < l.length), j ≤ i → kG l[i] ∨ (0 < i ∧ l5 l[i])) ∧ 1 ≤ l.length ∧ l.length ≤ 8
def du (l : List S92) (j : Nat) : Prop := (∀ (i : Nat) (h : i < l.length), j ≤ i → dz (ak l[i].f0) 0 ∧ fQ l[i] ∧ ∀ m (hm : m < i), l[m].f0 ≠ l[i].f0) ∧ 1 ≤ l.length ∧ l.length ≤ 4
open Classical in
noncomputable def fe (l : List S92) : Bool := decide (du l 0)
theorem bg {g : Nat → Option Bool} {p : Prop} {ip : Decidable p} (h : ¬ p) (k : Ev g false) : Ev g (@decide p ip) := by
 rw [decide_eq_false h]; exact k
theorem mc {α : Type} {g : Nat → Option α} {a b : α} (h : Ev g a) (h' : Ev g b) : a = b := by
 obtain ⟨K, h⟩ := h; obtain ⟨K', h'⟩ := h'; exact Option.some.inj ((h (max K K') (by omega)).symm.trans (h' (max K K') (by omega)))
theorem wpred (j : Nat) (h : j < 9223372036854775807) : wrap64 (((j + 1 : Nat) : Int) - 1) = (j : Int) := by rw [bC (by omega) (by omega)]; omega
open Classical in
noncomputable def eQ (l : List Int) : Bool := decide (dz l 0)
def pt (a b : ByteArray) : Prop := Op.bytesLess a.toList b.toList = true
def rt (c : Int) : Prop := 32 ≤ c ∧ c ≤ 126
open Classical in
noncomputable def ez (s : ByteArray) (m : Int) : Bool := decide ((∀ c ∈ ak s, rt c) ∧ (s.size : Int) ≤ m)
def fZ (key : ByteArray) (l : List S86) (j : Nat) : Prop := (∀ (i : Nat) (h : i < l.length), j ≤ i → eQ (ak l[i].f0) = true ∧ ez l[i].f1 60 = true ∧ ∀ h0 : 0 < i, pt (l[i - 1]'(by omega)).f0 l[i].f0) ∧ eQ (ak key) = true ∧ l.length ≤ 4
open Classical in
noncomputable def jU (key : ByteArray) (l : List S86) : Bool := decide (fZ key l 0)
def f7 (l : List ByteArray) : Prop := ∀ x ∈ l, eQ (ak x) = true
def eC (c : UInt8) : Nat → List UInt8 → List UInt8 → List (List UInt8)
 | _, acc, [] => [acc]
 | 0, acc, x :: xs => [acc ++ x :: xs]
 | n + 1, acc, x :: xs => if x = c then acc :: eC c n [] xs else eC c (n + 1) (acc ++ [x]) xs
def mkT (l : List UInt8) : ByteArray := ⟨l.toArray⟩
def ek (c : UInt8) (s : ByteArray) : List ByteArray := (eC c (s.data.toList.count c) [] s.data.toList).map mkT
def kD (s : ByteArray) : Prop := f7 (ek 44 s) ∧ (ek 44 s).length ≤ 4
def iv (s : ByteArray) : Int × Bool := match Lib.atoiAll s.data.toList with
 | .ok n => if -999999999 ≤ n ∧ n ≤ 999999999 ∧ Lib.itoa n = s.data.toList then (n, true) else (0, false)
 | _ => (0, false)
def jL (kind : Int) (s : ByteArray) : Prop := kind = 1 ∨ (kind = 2 ∧ (iv s).2 = true) ∨ (kind = 3 ∧ kD s)
def er (n : ByteArray) : List S92 → ByteArray × Int × Int
 | [] => (⟨#[]⟩, 0, 0)
 | f :: F => if f.f0 = n then (f.f0, f.f1, f.f2) else er n F
def eB (F : List S92) (n : ByteArray) : Int := (er n F).2.1
def jn (F : List S92) (key : ByteArray) (l : List S86) : Prop := fe F = true ∧ jU key l = true ∧ ∀ c ∈ l, jL (eB F c.f0) c.f1
open Classical in
noncomputable def gD (F : List S92) (key : ByteArray) (l : List S86) : Bool := decide (jn F key l)
theorem cU {g : Nat → Option Bool} {p q : Prop} {ip : Decidable p} {iq : Decidable q} (h : p ↔ q) (k : Ev g (@decide p ip)) : Ev g (@decide q iq) := by
 have e : @decide p ip = @decide q iq := decide_eq_decide.2 h; rw [← e]; exact k
theorem iO {key : ByteArray} {l : List S86} {j : Nat} (hj : l.length ≤ j) : fZ key l j ↔ eQ (ak key) = true ∧ l.length ≤ 4 := ⟨fun h => h.2, fun h => ⟨fun i hi hji => by omega, h⟩⟩
theorem ij {key : ByteArray} {l : List S86} {j : Nat} (hj : j < l.length) : fZ key l j ↔ (eQ (ak l[j].f0) = true ∧ ez l[j].f1 60 = true ∧ ∀ h0 : 0 < j, pt (l[j - 1]'(by omega)).f0 l[j].f0) ∧ fZ key l (j + 1) := by
 constructor
 ·rintro ⟨h, h2⟩; exact ⟨h j hj (Nat.le_refl _), fun i hi hji => h i hi (by omega), h2⟩
 ·rintro ⟨h, h1, h2⟩; refine ⟨fun i hi hji => ?_, h2⟩; rcases Nat.lt_or_ge j i with hlt | hge
  ·exact h1 i hi hlt
  ·obtain rfl : i = j := by omega
   exact h
theorem iM {l : List Int} {j : Nat} (hj : l.length ≤ j) : dz l j ↔ 1 ≤ l.length ∧ l.length ≤ 8 := ⟨fun h => h.2, fun h => ⟨fun i hi hji => by omega, h⟩⟩
theorem hJ {l : List Int} {j : Nat} (hj : j < l.length) : dz l j ↔ (kG l[j] ∨ (0 < j ∧ l5 l[j])) ∧ dz l (j + 1) := by
 constructor
 ·rintro ⟨h, h2⟩; exact ⟨h j hj (Nat.le_refl _), fun i hi hji => h i hi (by omega), h2⟩
 ·rintro ⟨h, h1, h2⟩; refine ⟨fun i hi hji => ?_, h2⟩; rcases Nat.lt_or_ge j i with hlt | hge
  ·exact h1 i hi hlt
  ·obtain rfl : i = j := by omega
   exact h
theorem gI (s : ByteArray) (j : Nat) (h : j < (ak s).length) : bt s (j : Int) = (ak s)[j] := by
 rw [← lq, je _ _ h]
theorem gw {α : Type} {g : Nat → Option α} {r : α} (h : ∀ k, g k = some r) : Ev g r := ⟨0, fun k _ => h k⟩
theorem ii (a : Int) : dD.f a = some (decide (l5 a)) := by
 unfold dD.f l5
 by_cases h : a ≥ 48
 ·rw [if_pos h]; congr 1; exact decide_eq_decide.2 (by omega)
 ·rw [if_neg h]; congr 1; symm; exact decide_eq_false (by omega)
theorem hU (a : Int) : dg.f a = some (decide (kG a)) := by
 unfold dg.f kG
 by_cases h : a ≥ 97
 ·rw [if_pos h]; congr 1; exact decide_eq_decide.2 (by omega)
 ·rw [if_neg h]; congr 1; symm; exact decide_eq_false (by omega)
theorem dt (a b c : Int) : aM.f a b c = some (decide (b ≤ a ∧ a ≤ c)) := by
 unfold aM.f
 by_cases h : a ≥ b
 ·rw [if_pos h]; congr 1; exact decide_eq_decide.2 ⟨fun h2 => ⟨h, h2⟩, fun h2 => h2.2⟩
 ·rw [if_neg h]; congr 1; symm; exact decide_eq_false (fun h2 => h h2.1)
open Classical in
theorem kz (s : ByteArray) (hn : s.size < 4611686018427387904) : ∀ (d i : Nat), i + d = s.size → Ev (fun k => ap.l0 k s (s.size : Int) (i : Int)) (decide (dz (ak s) i)) := by
 have hb := bR s; intro d; induction d with
 | zero =>
  intro i hi; refine Ev.step (fun k => ap.l0.eq_2 _ _ _ _) ?_; simp only [if_neg (show ¬ ((i : Int) < (s.size : Int)) by omega), dt, Option.bind_some]; refine cL (iM (by omega)).symm ?_; refine gw fun _ => ?_
  congr 1; exact decide_eq_decide.2 (by omega)
 | succ d ih =>
  intro i hi; have hs := hJ (l := ak s) (j := i) (by omega); refine Ev.step (fun k => ap.l0.eq_2 _ _ _ _) ?_; simp only [if_pos (show ((i : Int) < (s.size : Int)) by omega), if_pos (show 0 ≤ (i : Int) by omega), bY i (by omega), gI s i (by omega), hU, ii, Option.bind_some, decide_eq_true_eq]; by_cases h1 : kG (ak s)[i]
  ·simp only [if_pos h1]; exact cL (hs.trans ⟨fun h => h.2, fun h => ⟨.inl h1, h⟩⟩).symm (ih (i + 1) (by omega))
  ·simp only [if_neg h1]; by_cases h0 : (i : Int) = 0
   ·simp only [if_pos h0]; have : decide (dz (ak s) i) = false := decide_eq_false (fun h => by rcases (hs.1 h).1 with h2 | h2; exact h1 h2; omega); rw [this]; exact Ev.now _
   ·simp only [if_neg h0]; by_cases h2 : l5 (ak s)[i]
    ·simp only [if_pos h2]; exact cL (hs.trans ⟨fun h => h.2, fun h => ⟨.inr ⟨by omega, h2⟩, h⟩⟩).symm (ih (i + 1) (by omega))
    ·simp only [if_neg h2]; have : decide (dz (ak s) i) = false := decide_eq_false (fun h => by rcases (hs.1 h).1 with h3 | h3; exact h1 h3; exact h2 h3.2); rw [this]; exact Ev.now _
theorem eZ (s : ByteArray) (hn : s.size < 4611686018427387904) : Ev (fun k => ap.f k s) (eQ (ak s)) := kz s hn s.size 0 (by omega)
theorem fc (s : ByteArray) : ∀ c ∈ ak s, 0 ≤ c ∧ c ≤ 255 := by
 intro c hc; obtain ⟨b, _, rfl⟩ := List.mem_map.1 hc; have := b.toNat_lt; omega
theorem py (s : ByteArray) (j : Nat) (h : j < (ak s).length) : wrap64 (bt s (j : Int)) = (ak s)[j] := by
 rw [gI s j h]; have := fc s _ (List.getElem_mem h); exact bC (by omega) (by omega)
open Classical in
theorem lQ (s : ByteArray) (m : Int) (hs : s.size < 4611686018427387904) : ∀ (d i : Nat), i + d = s.size → Ev (fun k => cJ.l0 k s m (s.size : Int) (i : Int)) (decide ((∀ c ∈ (ak s).drop i, rt c) ∧ (s.size : Int) ≤ m)) := by
 have hlen := bR s; intro d; induction d with
 | zero =>
  intro i hi; refine Ev.step (fun k => cJ.l0.eq_2 _ _ _ _ _) ?_; simp only [if_neg (show ¬ ((i : Int) < (s.size : Int)) by omega)]; refine cL ?_ (Ev.now _); rw [List.drop_eq_nil_of_le (by omega)]; exact ⟨fun h => ⟨fun c hc => by simp at hc, h⟩, fun h => h.2⟩
 | succ d ih =>
  intro i hi; refine Ev.step (fun k => cJ.l0.eq_2 _ _ _ _ _) ?_; simp only [if_pos (show ((i : Int) < (s.size : Int)) by omega), if_pos (show 0 ≤ (i : Int) by omega), py s i (by omega), dt, Option.bind_some, decide_eq_true_eq, bY i (by omega)]; have e := List.drop_eq_getElem_cons (l := ak s) (i := i) (by omega); by_cases hw : 32 ≤ (ak s)[i] ∧ (ak s)[i] ≤ 126
  ·simp only [if_pos hw]; refine cL ?_ (ih (i + 1) (by omega)); rw [e]; constructor
   ·rintro ⟨h1, h2⟩; exact ⟨fun c hc => by rcases List.mem_cons.1 hc with h | h; exact h ▸ hw; exact h1 c h, h2⟩
   ·rintro ⟨h1, h2⟩; exact ⟨fun c hc => h1 c (List.mem_cons_of_mem _ hc), h2⟩
  ·simp only [if_neg hw]; refine cm (fun h => hw (h.1 _ ?_)) (Ev.now _); rw [e]; exact List.mem_cons_self ..
theorem lA (s : ByteArray) (m : Int) (hs : s.size < 4611686018427387904) : Ev (fun k => cJ.f k s m) (ez s m) := by
 simp only [cJ.f, ez]; exact lQ s m hs s.size 0 (by omega)
theorem lf (s : ByteArray) (hs : s.size < 4611686018427387904) : Ev (fun k => b4.f k s) (ez s 60) := by
 simp only [b4.f]; exact Ev.bind (lA s 60 hs) (Ev.now _)
open Classical in
theorem iA (key : ByteArray) (l : List S86) (hk : key.size ≤ 1048576) (hn : l.length ≤ 1048576) (hs : ∀ x ∈ l, x.f0.size ≤ 1048576 ∧ x.f1.size ≤ 1048576) : ∀ (d i : Nat), i + d = l.length →
  Ev (fun k => bl.l0 k l (l.length : Int) (i : Int) key l) (decide (fZ key l i)) := by
 intro d; induction d with
 | zero =>
  intro i hi; refine Ev.step (fun k => bl.l0.eq_2 _ _ _ _ _ _) ?_; simp only [if_neg (show ¬ ((i : Int) < (l.length : Int)) by omega)]; refine cL (iO (by omega)).symm ?_; refine Ev.bind (eZ key (by omega)) ?_; cases hnm : eQ (ak key) with
  | false => simp only [if_neg (show ¬ (false = true) by decide)]; exact cm (fun h => by cases h.1) (Ev.now _)
  | true =>
   simp only [if_true]; exact cL ⟨fun h => ⟨(by first | trivial | rfl), by omega⟩, fun h => by have := h.2; omega⟩ (Ev.now _)
 | succ d ih =>
  intro i hi; have hst := ij (key := key) (l := l) (j := i) (by omega); have hsz := hs l[i] (List.getElem_mem _); have hnext := ih (i + 1) (by omega); refine Ev.step (fun k => bl.l0.eq_2 _ _ _ _ _ _) ?_; simp only [if_pos (show ((i : Int) < (l.length : Int)) by omega), if_pos (show 0 ≤ (i : Int) by omega), fh l i (by omega), bY i (by omega)]; refine Ev.bind (eZ l[i].f0 (by omega)) ?_; cases hnm : eQ (ak l[i].f0) with
  | false => simp only [if_neg (show ¬ (false = true) by decide)]; exact cm (fun h => by have := (hst.1 h).1.1; rw [hnm] at this; cases this) (Ev.now _)
  | true =>
   simp only [if_true]; refine Ev.bind (lf l[i].f1 (by omega)) ?_; cases htx : ez l[i].f1 60 with
   | false => simp only [if_neg (show ¬ (false = true) by decide)]; exact cm (fun h => by have := (hst.1 h).1.2.1; rw [htx] at this; cases this) (Ev.now _)
   | true =>
    simp only [if_true]; by_cases h0 : (i : Int) > 0
    ·have he : wrap64 ((i : Int) - 1) = ((i - 1 : Nat) : Int) := by rw [bC (by omega) (by omega)]; omega
     simp only [if_pos h0, he, if_pos (show 0 ≤ ((i - 1 : Nat) : Int) by omega), if_pos (show ((i - 1 : Nat) : Int) < (l.length : Int) by omega), fh l (i - 1) (by omega)]; by_cases hl : pt (l[i - 1]'(by omega)).f0 l[i].f0
     ·have hl2 : Op.bytesLess (l[i - 1]'(by omega)).f0.toList l[i].f0.toList = true := hl; simp only [hl2, if_true]; exact cL (hst.trans ⟨fun h => h.2, fun h => ⟨⟨hnm, htx, fun _ => hl⟩, h⟩⟩).symm hnext
     ·have hl2 : Op.bytesLess (l[i - 1]'(by omega)).f0.toList l[i].f0.toList = false := Bool.eq_false_iff.2 hl; simp only [hl2, if_neg (show ¬ (false = true) by decide)]; exact cm (fun h => hl ((hst.1 h).1.2.2 (by omega))) (Ev.now _)
    ·simp only [if_neg h0]; exact cL (hst.trans ⟨fun h => h.2, fun h => ⟨⟨hnm, htx, fun h1 => by omega⟩, h⟩⟩).symm hnext
theorem iG (key : ByteArray) (l : List S86) (hk : key.size ≤ 1048576) (hn : l.length ≤ 1048576) (hs : ∀ x ∈ l, x.f0.size ≤ 1048576 ∧ x.f1.size ≤ 1048576) : Ev (fun k => bl.f k key l) (jU key l) := iA key l hk hn hs l.length 0 (by omega)
theorem cX {α : Type} (l : List α) (j : Nat) (h : j < l.length) : l.drop j = l[j] :: l.drop (j + 1) := List.drop_eq_getElem_cons h
def oR (F : List S92) (l : List S86) : Prop := ∀ c ∈ l, jL (eB F c.f0) c.f1
theorem eF {g : Nat → Option Bool} {p : Prop} {ip : Decidable p} (h : p) (k : Ev g true) : Ev g (@decide p ip) := by
 rw [decide_eq_true h]; exact k
theorem ka (n : ByteArray) (F : List S92) (hn : F.length < 4611686018427387904) : ∀ (d i : Nat), i + d = F.length → Ev (fun k => bf.l0 k n F (F.length : Int) (i : Int)) (er n (F.drop i)) := by
 intro d; induction d with
 | zero =>
  intro i hi; refine Ev.step (fun k => bf.l0.eq_2 _ _ _ _ _) ?_; simp only [if_neg (show ¬ ((i : Int) < (F.length : Int)) by omega)]; rw [List.drop_eq_nil_of_le (by omega)]; exact Ev.now _
 | succ d ih =>
  intro i hi; have hil : i < F.length := by omega
  refine Ev.step (fun k => bf.l0.eq_2 _ _ _ _ _) ?_; rw [cX F i hil]; simp only [if_pos (show ((i : Int) < (F.length : Int)) by omega), if_pos (show 0 ≤ (i : Int) by omega), eu F i hil, toList_inj, bY i (by omega), er]; by_cases h : F[i].f0 = n
  ·simp only [if_pos h]; exact Ev.now _
  ·simp only [if_neg h]; exact ih (i + 1) (by omega)
theorem gq (n : ByteArray) (F : List S92) (hn : F.length < 4611686018427387904) : Ev (fun k => bf.f k F n) (er n F) := by
 have := ka n F hn F.length 0 (by omega); simpa [bf.f] using this
theorem iV {α : Type} (d : α) (l : List α) (j : Nat) (h : j < l.length) : eA d l (j : Int) = l[j] := by
 unfold eA; simp [List.getD_eq_getElem?_getD, List.getElem?_eq_getElem h]
theorem eU {x : ByteArray} {l : List ByteArray} : f7 (x :: l) ↔ eQ (ak x) = true ∧ f7 l := by
 unfold f7
 constructor
 ·intro h; exact ⟨h x (by simp), fun y hy => h y (List.mem_cons_of_mem _ hy)⟩
 ·rintro ⟨h1, h2⟩ y hy; rcases List.mem_cons.1 hy with rfl | hy
  ·exact h1
  ·exact h2 y hy
open Classical in
theorem la (L : List ByteArray) (hL : L.length ≤ 1048577) (hx : ∀ x ∈ L, x.size ≤ 1048576) : ∀ (d i : Nat), i + d = L.length → Ev (fun k => ce.l0 k L L (L.length : Int) (i : Int)) (decide (f7 (L.drop i) ∧ L.length ≤ 4)) := by
 intro d; induction d with
 | zero =>
  intro i hi; refine Ev.step (fun k => ce.l0.eq_2 _ _ _ _ _) ?_; simp only [if_neg (show ¬ ((i : Int) < (L.length : Int)) by omega)]; rw [List.drop_eq_nil_of_le (by omega)]; refine cU ?_ (Ev.now _); exact ⟨fun h => ⟨fun x hx => by simp at hx, by omega⟩, fun h => by have := h.2; omega⟩
 | succ d ih =>
  intro i hi; have hil : i < L.length := by omega
  have hxi := hx L[i] (List.getElem_mem _); refine Ev.step (fun k => ce.l0.eq_2 _ _ _ _ _) ?_; simp only [if_pos (show ((i : Int) < (L.length : Int)) by omega), if_pos (show 0 ≤ (i : Int) by omega), iV _ L i hil, bY i (by omega)]; refine Ev.bind (eZ L[i] (by omega)) ?_; rw [cX L i hil]; cases hnm : eQ (ak L[i]) with
  | false => simp only [if_neg (show ¬ (false = true) by decide)]; exact bg (fun h => by have := (eU.1 h.1).1; rw [hnm] at this; cases this) (Ev.now _)
  | true =>
   simp only [if_true]; exact cU ⟨fun h => ⟨eU.2 ⟨hnm, h.1⟩, h.2⟩, fun h => ⟨(eU.1 h.1).2, h.2⟩⟩ (ih (i + 1) (by omega))
theorem nJ (s : ByteArray) : mkT s.data.toList = s := by cases s; rfl
theorem gY (c : UInt8) (acc l : List UInt8) : eC c 0 acc l = [acc ++ l] := by cases l <;> simp [eC]
theorem i6 (c : UInt8) : ∀ (x : List UInt8) (n : Nat) (acc r : List UInt8), c ∉ x → eC c n acc (x ++ r) = eC c n (acc ++ x) r
 | [], n, acc, r, _ => by simp
 | a :: x, 0, acc, r, _ => by rw [gY, gY]; simp
 | a :: x, n + 1, acc, r, h => by
  have h1 : a ≠ c := fun e => h (by simp [e])
  rw [List.cons_append, eC, if_neg h1, i6 c x (n + 1) _ r (fun e => h (List.mem_cons_of_mem _ e))]; simp
theorem ja (c : UInt8) (r : List UInt8) : ∀ (x : List UInt8), c ∉ x → Lib.indexByte (x ++ c :: r) c = (x.length : Int)
 | [], _ => by simp [Lib.indexByte]
 | a :: x, h => by
  have ha : a ≠ c := fun e => h (by simp [e])
  have := ja c r x (fun e => h (List.mem_cons_of_mem _ e)); simp [Lib.indexByte, this, ha]
theorem ib (c : UInt8) : ∀ (l : List UInt8), c ∉ l → Lib.indexByte l c = -1
 | [], _ => rfl
 | x :: l, h => by
  have hx : x ≠ c := fun e => h (by simp [e])
  have := ib c l (fun e => h (List.mem_cons_of_mem _ e)); simp [Lib.indexByte, this, hx]
theorem mu (c : UInt8) : ∀ (k : Nat) (l : List UInt8), Lib.splitK [c] 0 k l = eC c k [] l
 | 0, l => by rw [gY]; rfl
 | k + 1, l => by
  unfold Lib.splitK
  rw [Lib.index_one]; by_cases h : c ∈ l
  ·obtain ⟨x, r, rfl, hx⟩ := List.eq_append_cons_of_mem h; rw [ja c r x hx, if_neg (by simp), mu c k, i6 c x (k + 1) [] _ hx, eC, if_pos rfl]; simp
  ·rw [ib c l h, if_pos (by decide)]; have := i6 c l (k + 1) [] [] h; rw [List.append_nil, List.nil_append] at this; rw [this]; simp [eC]
theorem qT (c : UInt8) (s : ByteArray) (hs : s.size < 4294967281) : strings_Split.f s ⟨#[c]⟩ = some (ek c s) := by
 unfold strings_Split.f
 rw [if_pos ⟨hs, Nat.le_refl _⟩]; have e : (⟨#[c]⟩ : ByteArray).data.toList = [c] := rfl; have h1 := Lib.splitB_data ⟨#[c]⟩ 0 (Lib.countB s ⟨#[c]⟩) s; rw [e, mu] at h1; have h2 : Lib.countB s ⟨#[c]⟩ = s.data.toList.count c := by
  show Lib.count s.data.toList [c] = _
  exact Lib.count_one c _
 rw [h2] at h1 ⊢; unfold ek
 rw [← h1, List.map_map]; congr 1
 conv => lhs; rw [← List.map_id (Lib.splitB _ _ _ _)]
 exact List.map_congr_left (fun x _ => (nJ x).symm)
theorem gA (c : UInt8) : ∀ (l : List UInt8) (n : Nat) (acc : List UInt8), (eC c n acc l).length ≤ l.length + 1 ∧ (eC c n acc l).length ≤ n + 1 ∧ 1 ≤ (eC c n acc l).length
 | [], n, acc => by simp [eC]
 | x :: xs, 0, acc => by simp [eC]
 | x :: xs, n + 1, acc => by
  have h1 := gA c xs n []; have h2 := gA c xs (n + 1) (acc ++ [x]); unfold eC
  split
  ·simp only [List.length_cons]; omega
  ·simp only [List.length_cons]; omega
theorem fq (s : ByteArray) : s.data.toList.length = s.size := rfl
theorem hY (c : UInt8) (s : ByteArray) : (ek c s).length ≤ s.size + 1 ∧ 1 ≤ (ek c s).length := by
 unfold ek
 have := gA c s.data.toList (s.data.toList.count c) []; rw [List.length_map]; rw [fq] at this; omega
theorem jC (c : UInt8) : ∀ (l : List UInt8) (n : Nat) (acc : List UInt8), ∀ p ∈ eC c n acc l, p.length ≤ acc.length + l.length
 | [], n, acc => by simp [eC]
 | x :: xs, 0, acc => by simp [eC]
 | x :: xs, n + 1, acc => by
  intro p hp; unfold eC at hp
  split at hp
  ·rcases List.mem_cons.1 hp with rfl | hp
   ·omega
   ·have := jC c xs n [] p hp; simp only [List.length_nil, List.length_cons] at this ⊢; omega
  ·have := jC c xs (n + 1) (acc ++ [x]) p hp; simp only [List.length_append, List.length_cons, List.length_nil] at this ⊢; omega
theorem rl (l : List UInt8) : (mkT l).size = l.length := by simp [mkT, ByteArray.size]
theorem jM {c : UInt8} {s p : ByteArray} (h : p ∈ ek c s) : p.size ≤ s.size := by
 obtain ⟨x, hx, rfl⟩ := List.mem_map.1 h; have := jC c _ _ _ x hx; rw [fq] at this; rw [rl]; simpa using this
open Classical in
theorem kW (s : ByteArray) (hs : s.size ≤ 1048576) : Ev (fun k => ce.f k s) (decide (kD s)) := by
 have hlen := hY 44 s; simp only [ce.f, qT 44 s (show s.size < 4294967281 by omega), Option.bind_some]; have h := la (ek 44 s) (by omega) (fun x hx => by have := jM hx; omega) (ek 44 s).length 0 (by omega); rw [List.drop_zero] at h; exact cU Iff.rfl h
theorem qr (s : ByteArray) (hs : s.size ≤ 140737488355328) : b5.f s = some (iv s) := by
 unfold b5.f
 rw [if_pos hs]; rfl
open Classical in
theorem lK (F : List S92) (hF : F.length ≤ 1048576) (l : List S86) (hn : l.length ≤ 1048576) (hs : ∀ x ∈ l, x.f0.size ≤ 1048576 ∧ x.f1.size ≤ 1048576) : ∀ (d i : Nat), i + d = l.length →
  Ev (fun k => aN.l0 k F l (l.length : Int) (i : Int)) (decide (oR F (l.drop i))) := by
 intro d; induction d with
 | zero =>
  intro i hi; refine Ev.step (fun k => aN.l0.eq_2 _ _ _ _ _) ?_; simp only [if_neg (show ¬ ((i : Int) < (l.length : Int)) by omega)]; rw [List.drop_eq_nil_of_le (by omega)]; exact eF (fun c hc => by simp at hc) (Ev.now _)
 | succ d ih =>
  intro i hi; have hil : i < l.length := by omega
  have hsz := hs l[i] (List.getElem_mem _); have hnx := ih (i + 1) (by omega); have yes : jL (eB F l[i].f0) l[i].f1 → Ev (fun k => aN.l0 k F l (l.length : Int) ((i + 1 : Nat) : Int)) (decide (oR F (l[i] :: l.drop (i + 1)))) := by
   intro h; refine cU ⟨fun h2 c hc => ?_, fun h2 c hc => h2 c (List.mem_cons_of_mem _ hc)⟩ hnx; rcases List.mem_cons.1 hc with rfl | hc
   ·exact h
   ·exact h2 c hc
  have no : ¬ jL (eB F l[i].f0) l[i].f1 → Ev (fun _ : Nat => some false) (decide (oR F (l[i] :: l.drop (i + 1)))) := fun h => bg (fun h2 => h (h2 _ (List.mem_cons_self ..))) (Ev.now _)
  refine Ev.step (fun k => aN.l0.eq_2 _ _ _ _ _) ?_; rw [cX l i hil]; simp only [if_pos (show ((i : Int) < (l.length : Int)) by omega), if_pos (show 0 ≤ (i : Int) by omega), fh l i hil, bY i (by omega)]; refine Ev.bind (gq l[i].f0 F (by omega)) ?_; have hkd : (er l[i].f0 F).2.1 = eB F l[i].f0 := rfl; rw [hkd]; by_cases h1 : eB F l[i].f0 = 1
  ·simp only [if_pos h1]; exact yes (Or.inl h1)
  ·simp only [if_neg h1]; by_cases h2 : eB F l[i].f0 = 2
   ·simp only [if_pos h2, qr l[i].f1 (by omega), Option.bind_some]; cases hnum : (iv l[i].f1).2 with
    | true => simp only [if_true]; exact yes (Or.inr (Or.inl ⟨h2, hnum⟩))
    | false =>
     simp only [if_neg (show ¬ (false = true) by decide)]; refine no (fun h => ?_); rcases h with h | ⟨_, h⟩ | ⟨h, _⟩
     ·exact h1 h
     ·rw [hnum] at h; cases h
     ·omega
   ·simp only [if_neg h2]; by_cases h3 : eB F l[i].f0 = 3
    ·simp only [if_pos h3]; refine Ev.bind (kW l[i].f1 hsz.2) ?_; by_cases ht : kD l[i].f1
     ·rw [decide_eq_true ht]; simp only [if_true]; exact yes (Or.inr (Or.inr ⟨h3, ht⟩))
     ·rw [decide_eq_false ht]; simp only [if_neg (show ¬ (false = true) by decide)]; refine no (fun h => ?_); rcases h with h | ⟨h, _⟩ | ⟨_, h⟩
      ·exact h1 h
      ·exact h2 h
      ·exact ht h
    ·simp only [if_neg h3]; refine no (fun h => ?_); rcases h with h | ⟨h, _⟩ | ⟨h, _⟩
     ·exact h1 h
     ·exact h2 h
     ·exact h3 h
theorem gM {l : List S92} {j : Nat} (hj : l.length ≤ j) : du l j ↔ 1 ≤ l.length ∧ l.length ≤ 4 := ⟨fun h => h.2, fun h => ⟨fun i hi hji => by omega, h⟩⟩
theorem gl {l : List S92} {j : Nat} (hj : j < l.length) : du l j ↔ (dz (ak l[j].f0) 0 ∧ fQ l[j] ∧ ∀ m (hm : m < j), l[m].f0 ≠ l[j].f0) ∧ du l (j + 1) := by
 constructor
 ·rintro ⟨h, h2⟩; exact ⟨h j hj (Nat.le_refl _), fun i hi hji => h i hi (by omega), h2⟩
 ·rintro ⟨h, h1, h2⟩; refine ⟨fun i hi hji => ?_, h2⟩; rcases Nat.lt_or_ge j i with hlt | hge
  ·exact h1 i hi hlt
  ·obtain rfl : i = j := by omega
   exact h
open Classical in
theorem fX {l : List Int} : eQ l = true ↔ dz l 0 := by unfold eQ; exact decide_eq_true_iff
theorem f5 (l : List ByteArray) (j : Nat) (h : j < l.length) : eA ByteArray.empty l (j : Int) = l[j] := iV _ l j h
open Classical in
theorem fg (l : List ByteArray) (n : ByteArray) (hn : l.length < 4611686018427387904) : ∀ (d i : Nat), i + d = l.length → ∃ r : Int, Ev (fun k => aw.l0 k l n (l.length : Int) (i : Int)) r ∧ decide (r ≥ 0) = decide (n ∈ l.drop i) := by
 intro d; induction d with
 | zero =>
  intro i hi; refine ⟨-1, Ev.step (fun k => aw.l0.eq_2 _ _ _ _ _) ?_, ?_⟩
  ·simp only [if_neg (show ¬ ((i : Int) < (l.length : Int)) by omega)]; exact Ev.now _
  ·rw [List.drop_of_length_le (by omega)]; simp
 | succ d ih =>
  intro i hi; have hs := dT (l := l) (n := n) (show i < l.length by omega); by_cases h : n = l[i]
  ·refine ⟨(i : Int), Ev.step (fun k => aw.l0.eq_2 _ _ _ _ _) ?_, ?_⟩
   ·simp only [if_pos (show ((i : Int) < (l.length : Int)) by omega), if_pos (show 0 ≤ (i : Int) by omega), f5 l i (by omega), toList_inj, if_pos h]; exact Ev.now _
   ·rw [decide_eq_true (hs.2 (.inl h))]; simp
  ·obtain ⟨r, h1, h2⟩ := ih (i + 1) (by omega); refine ⟨r, Ev.step (fun k => aw.l0.eq_2 _ _ _ _ _) ?_, ?_⟩
   ·simp only [if_pos (show ((i : Int) < (l.length : Int)) by omega), if_pos (show 0 ≤ (i : Int) by omega), f5 l i (by omega), toList_inj, if_neg h, bY i (by omega)]; exact h1
   ·rw [h2]; exact decide_eq_decide.2 (hs.trans ⟨fun h1 => h1.resolve_left h, .inr⟩).symm
open Classical in
theorem db (l : List ByteArray) (n : ByteArray) (hn : l.length < 4611686018427387904) : Ev (fun k => al.f k l n) (decide (n ∈ l)) := by
 obtain ⟨r, h1, h2⟩ := fg l n hn l.length 0 (by omega); simp only [al.f]; refine Ev.bind (a := r) h1 ?_; rw [h2]; exact Ev.now _
open Classical in
theorem jt (l : List S92) (hn : l.length ≤ 1048577) (hs : ∀ x ∈ l, x.f0.size ≤ 1048576) : ∀ (d i : Nat), i + d = l.length →
  Ev (fun k => aC.l0 k l ((l.take i).map (fun x => x.f0)) l (l.length : Int) (i : Int)) (decide (du l i)) := by
 intro d; induction d with
 | zero =>
  intro i hi; refine Ev.step (fun k => aC.l0.eq_2 _ _ _ _ _ _) ?_; simp only [if_neg (show ¬ ((i : Int) < (l.length : Int)) by omega), dt, Option.bind_some]; refine cL (gM (by omega)).symm ?_; refine gw fun _ => ?_
  congr 1; exact decide_eq_decide.2 (by omega)
 | succ d ih =>
  intro i hi; have hst := gl (l := l) (j := i) (by omega); have hsz := hs l[i] (List.getElem_mem _); have hlen : ((l.take i).map (fun x => x.f0)).length = i := by rw [List.length_map, List.length_take]; omega
  have hmem : l[i].f0 ∈ (l.take i).map (fun x => x.f0) ↔ ∃ m, ∃ hm : m < i, l[m].f0 = l[i].f0 := by
   rw [List.mem_map]; constructor
   ·rintro ⟨x, hx, he⟩; obtain ⟨m, hm, rfl⟩ := List.mem_iff_getElem.1 hx; rw [List.length_take] at hm; exact ⟨m, by omega, by rw [← he, List.getElem_take]⟩
   ·rintro ⟨m, hm, he⟩; exact ⟨l[m], List.mem_iff_getElem.2 ⟨m, by rw [List.length_take]; omega, by rw [List.getElem_take]⟩, he⟩
  have hnx : (l.take (i + 1)).map (fun x => x.f0) = (l.take i).map (fun x => x.f0) ++ [l[i].f0] := by
   rw [List.take_add_one, List.getElem?_eq_getElem (by omega), List.map_append]; rfl
  refine Ev.step (fun k => aC.l0.eq_2 _ _ _ _ _ _) ?_; simp only [if_pos (show ((i : Int) < (l.length : Int)) by omega), if_pos (show 0 ≤ (i : Int) by omega), eu l i (by omega), dt, Option.bind_some]; have hj1 : ∀ (t : Bool), ((t = true ∧ 1 ≤ l[i].f1 ∧ l[i].f1 ≤ 3) ↔ fQ l[i]) → Ev (fun k => aC.j1 k l ((l.take i).map (fun x => x.f0)) t l (l.length : Int) (i : Int) l[i].f0 l[i].f1 l[i].f2) (decide (du l i)) := by
   intro t ht; refine Ev.step (fun k => aC.j1.eq_2 _ _ _ _ _ _ _ _ _ _) ?_; refine Ev.bind (eZ l[i].f0 (by omega)) ?_; cases hnm : eQ (ak l[i].f0) with
   | false =>
    simp only [if_neg (show ¬ (false = true) by decide)]; refine cm (fun h => ?_) (Ev.now _); have := fX.2 (hst.1 h).1.1; rw [hnm] at this; cases this
   | true =>
    simp only [if_true]; refine Ev.bind (db _ _ (by rw [hlen]; omega)) ?_; simp only [decide_eq_true_eq, dt, Option.bind_some]; by_cases hc : l[i].f0 ∈ (l.take i).map (fun x => x.f0)
    ·simp only [if_pos hc]; obtain ⟨m, hm, he⟩ := hmem.1 hc; exact cm (fun h => (hst.1 h).1.2.2 m hm he) (Ev.now _)
    ·simp only [if_neg hc]; by_cases hp : fQ l[i]
     ·obtain ⟨h1, h2⟩ := ht.2 hp; simp only [if_pos h2, h1, if_true, hlen, if_pos (show i < 8796093022208 by omega), bY i (by omega)]; have hnext := ih (i + 1) (by omega); rw [hnx] at hnext; exact cL (hst.trans ⟨fun h => h.2, fun h => ⟨⟨fX.1 hnm, hp, fun m hm he => hc (hmem.2 ⟨m, hm, he⟩)⟩, h⟩⟩).symm hnext
     ·have hf : Ev (fun _ => some false) (decide (du l i)) := cm (fun h => hp (hst.1 h).1.2.1) (Ev.now _); by_cases h2 : 1 ≤ l[i].f1 ∧ l[i].f1 ≤ 3
      ·have h1 : t = false := by
        cases t
        ·rfl
        ·exact absurd (ht.1 ⟨rfl, h2⟩) hp
       simp only [if_pos h2, h1, if_neg (show ¬ (false = true) by decide)]; exact hf
      ·simp only [if_neg h2]; exact hf
  by_cases h1 : l[i].f1 = 1
  ·simp only [if_pos h1]; refine hj1 _ ?_; unfold fQ
   rw [decide_eq_true_eq]; constructor
   ·intro h; exact .inl ⟨h1, h.1⟩
   ·intro h; rcases h with h | h
    ·exact ⟨h.2, by omega, by omega⟩
    ·omega
  ·simp only [if_neg h1]; refine hj1 _ ?_; unfold fQ
   rw [beq_iff_eq]; constructor
   ·intro h; exact .inr ⟨by omega, h.2.2, h.1⟩
   ·intro h; rcases h with h | h
    ·exact absurd h.1 h1
    ·exact ⟨h.2.2, by omega, h.2.1⟩
theorem fY (l : List S92) (hn : l.length ≤ 1048577) (hs : ∀ x ∈ l, x.f0.size ≤ 1048576) : Ev (fun k => aC.f k l) (fe l) := jt l hn hs l.length 0 (by omega)
open Classical in
theorem lB (F : List S92) (hF : F.length ≤ 1048576) (hFs : ∀ x ∈ F, x.f0.size ≤ 1048576) (key : ByteArray) (l : List S86) (hk : key.size ≤ 1048576) (hn : l.length ≤ 1048576) (hs : ∀ x ∈ l, x.f0.size ≤ 1048576 ∧ x.f1.size ≤ 1048576) : Ev (fun k => aN.f k F key l) (gD F key l) := by
 simp only [aN.f, gD]; have stop : ¬ jn F key l → Ev (fun k => aN.j0 k F true key l) (decide (jn F key l)) := by
  intro h; refine Ev.step (fun k => aN.j0.eq_2 _ _ _ _ _) ?_; simp only [if_true]; exact bg h (Ev.now _)
 refine Ev.bind (fY F (by omega) hFs) ?_; cases hf : fe F with
 | false => simp only [if_neg (show ¬ (false = true) by decide)]; exact stop (fun h => by have := h.1; rw [hf] at this; cases this)
 | true =>
  simp only [if_true]; refine Ev.bind (iG key l hk hn hs) ?_; cases hm : jU key l with
  | false => exact stop (fun h => by have := h.2.1; rw [hm] at this; cases this)
  | true =>
   simp only [Bool.not_true]; refine Ev.step (fun k => aN.j0.eq_2 _ _ _ _ _) ?_; simp only [if_neg (show ¬ (false = true) by decide)]; have h := lK F hF l hn hs l.length 0 (by omega); rw [List.drop_zero] at h; refine cU ?_ h; unfold jn
   exact ⟨fun h => ⟨hf, hm, h⟩, fun h => h.2.2⟩
theorem jQ (l : List S90) (j : Nat) (h : j < l.length) : eP l (j : Int) = l[j] := by
 unfold eP; simp [List.getD_eq_getElem?_getD, List.getElem?_eq_getElem h]
theorem iJ (l : List Int) (h : ∀ c ∈ l, 0 ≤ c ∧ c ≤ 255) : ak (strOfNums l) = l := by
 unfold ak
 rw [strOfNums_data, List.map_map]; conv => rhs; rw [← List.map_id l]
 apply List.map_congr_left
 intro c hc; have := h c hc; simp only [Function.comp, id]; rw [UInt8.toNat_ofNat']; omega
theorem nt (c : Int) (h : 0 ≤ c ∧ c ≤ 255) : 0 ≤ dv c ∧ dv c ≤ 255 := by
 unfold dv; split <;> omega
def eH (s : ByteArray) : ByteArray := strOfNums ((ak s).map dv)
theorem lE (s : ByteArray) : ak (eH s) = (ak s).map dv := by
 unfold eH
 apply iJ
 intro c hc; obtain ⟨b, hb, rfl⟩ := List.mem_map.1 hc; exact nt b (fc s b hb)
theorem lb (s : ByteArray) : (eH s).size = s.size := by
 rw [← bR, lE, List.length_map, bR]
theorem m9 (s : ByteArray) (hn : s.size < 70368744177664) : fb.f s = some (eH s) := by
 unfold fb.f
 rw [if_pos (by omega)]; rfl
open Classical in
noncomputable def fj (w : ByteArray) : ByteArray := if w ∈ cE then (⟨#[]⟩ : ByteArray) else w
open Classical in
theorem na (x : ByteArray) (hx : x.size ≤ 100) (b : Bool) (hb : b = true → 1 ≤ x.size) : Ev (fun k => b8.j0 k x (x.size : Int) b) (fj (if b = true then x.extract 0 (x.size - 1) else x)) := by
 refine Ev.step (fun k => b8.j0.eq_2 _ _ _ _) ?_; cases b with
 | false =>
  simp only [if_neg (show ¬ (false = true) by decide)]; refine Ev.bind (db cE x (by decide)) ?_; unfold fj
  by_cases h : x ∈ cE
  ·simp only [if_pos h, decide_eq_true h, if_true]; exact Ev.now _
  ·simp only [if_neg h, decide_eq_false h, if_neg (show ¬ (false = true) by decide)]; exact Ev.now _
 | true =>
  have h1 := hb rfl; simp only [if_true, bC (x := (x.size : Int) - 1) (by omega) (by omega), if_pos (show 0 ≤ (x.size : Int) - 1 by omega), if_pos (show (x.size : Int) - 1 ≤ (x.size : Int) by omega), show ((x.size : Int) - 1).toNat = x.size - 1 by omega]; refine Ev.bind (db cE _ (by decide)) ?_; unfold fj
  by_cases h : x.extract 0 (x.size - 1) ∈ cE
  ·simp only [if_pos h, decide_eq_true h, if_true]; exact Ev.now _
  ·simp only [if_neg h, decide_eq_false h, if_neg (show ¬ (false = true) by decide)]; exact Ev.now _
def gJ (w : ByteArray) : ByteArray := w.extract 0 (min w.size 12)
theorem extract_size (w : ByteArray) (n : Nat) (h : n ≤ w.size) : (w.extract 0 n).size = n := by rw [ByteArray.size_extract]; omega
theorem kJ (w : ByteArray) : (gJ w).size = min w.size 12 := extract_size w _ (Nat.min_le_left _ _)
def i7 (w : ByteArray) : Bool := decide (w.size > 3 ∧ bt w ((w.size : Int) - 1) = 115 ∧ bt w ((w.size : Int) - 2) ≠ 115)
def noS (w : ByteArray) : ByteArray := if i7 w = true then w.extract 0 (w.size - 1) else w
noncomputable def gu (s : ByteArray) : ByteArray := fj (noS (gJ (eH s)))
theorem mH (s : ByteArray) (hs : s.size < 70368744177664) : Ev (fun k => b8.f k s) (gu s) := by
 simp only [b8.f]; have hz := lb s; simp only [m9 s hs, Option.bind_some]; have hmn : mn ((eH s).size : Int) 12 = ((min (eH s).size 12 : Nat) : Int) := by unfold mn; split <;> omega
 simp only [hmn, if_pos (show (0 : Int) ≤ ((min (eH s).size 12 : Nat) : Int) by omega), if_pos (show ((min (eH s).size 12 : Nat) : Int) ≤ ((eH s).size : Int) by omega), Int.toNat_natCast]; have hc : (eH s).extract 0 (min (eH s).size 12) = gJ (eH s) := rfl; have hx : (gJ (eH s)).size ≤ 100 := by rw [kJ]; omega
 simp only [hc]; unfold gu
 generalize gJ (eH s) = x at hx; have key : ∀ b : Bool, b = i7 x → Ev (fun k => b8.j0 k x (x.size : Int) b) (fj (noS x)) := by
  intro b hb; have := na x hx b (fun h => by
   rw [hb] at h; have := (of_decide_eq_true h).1; omega)
  rw [hb] at this ⊢; exact this
 by_cases h3 : (x.size : Int) > 3
 ·simp only [if_pos h3, bC (x := (x.size : Int) - 1) (by omega) (by omega), bC (x := (x.size : Int) - 2) (by omega) (by omega), if_pos (show 0 ≤ (x.size : Int) - 1 by omega), if_pos (show (x.size : Int) - 1 < (x.size : Int) by omega), if_pos (show 0 ≤ (x.size : Int) - 2 by omega), if_pos (show (x.size : Int) - 2 < (x.size : Int) by omega)]; by_cases h4 : bt x ((x.size : Int) - 1) = 115
  ·simp only [if_pos h4]; refine key _ ?_; unfold i7
   by_cases h5 : bt x ((x.size : Int) - 2) = 115
   ·rw [decide_eq_false (fun h => h.2.2 h5)]; simp [h5]
   ·rw [decide_eq_true ⟨by omega, h4, h5⟩]; simp [h5]
  ·simp only [if_neg h4]; refine key _ ?_; unfold i7
   rw [decide_eq_false (fun h => h4 h.2.1)]
 ·simp only [if_neg h3]; refine key _ ?_; unfold i7
  rw [decide_eq_false (fun h => by have := h.1; omega)]
theorem lN (l : List S90) (hn : l.length ≤ 1048578) (hs : ∀ w ∈ l, w.f0.size < 70368744177664) : ∀ (d i : Nat) (acc : List ByteArray), i + d = l.length → acc.length ≤ i →
  Ev (fun k => cz.l0 k acc l (l.length : Int) (i : Int)) (acc ++ (l.drop i).map (fun w => gu w.f0)) := by
 intro d; induction d with
 | zero =>
  intro i acc hi ha; refine Ev.step (fun k => cz.l0.eq_2 _ _ _ _ _) ?_; simp only [if_neg (show ¬ ((i : Int) < (l.length : Int)) by omega)]; rw [List.drop_eq_nil_of_le (by omega), List.map_nil, List.append_nil]; exact Ev.now _
 | succ d ih =>
  intro i acc hi ha; refine Ev.step (fun k => cz.l0.eq_2 _ _ _ _ _) ?_; simp only [if_pos (show ((i : Int) < (l.length : Int)) by omega), if_pos (show 0 ≤ (i : Int) by omega), jQ l i (by omega), bY i (by omega)]; refine Ev.bind (mH _ (hs _ (List.getElem_mem (by omega)))) ?_; simp only [if_pos (show acc.length < 8796093022208 by omega)]; have := ih (i + 1) (acc ++ [gu l[i].f0]) (by omega) (by simp; omega); rw [cX l i (by omega), List.map_cons]; rw [List.append_assoc] at this; exact this
def upP (c : Int) : Prop := 65 ≤ c ∧ c ≤ 90
instance (c : Int) : Decidable (upP c) := by unfold upP; infer_instance
def fT (c : Int) : Prop := upP c ∨ kG c ∨ l5 c
instance (c : Int) : Decidable (fT c) := by unfold fT; infer_instance
def cA : Nat → Option Nat → List Int → List (Nat × Nat)
 | _, none, [] => []
 | p, some st, [] => [(st, p)]
 | p, none, c :: cs => if fT c then cA (p + 1) (some p) cs else cA (p + 1) none cs
 | p, some st, c :: cs => if fT c then cA (p + 1) (some st) cs else (st, p) :: cA (p + 1) none cs
def gf (s : ByteArray) (q : Nat × Nat) : S90 := ⟨s.extract q.1 q.2, (q.1 : Int), (q.2 : Int)⟩
def eX (s : ByteArray) : List S90 := (cA 0 none (ak s)).map (gf s)
noncomputable def fE (s : ByteArray) : List ByteArray := (eX s).map (fun w => gu w.f0)
theorem jZ (s : ByteArray) (a b : Nat) : (s.extract a b).size ≤ s.size := by rw [ByteArray.size_extract]; omega
theorem ia (s : ByteArray) : ∀ w ∈ eX s, w.f0.size ≤ s.size := by
 intro w hw; obtain ⟨q, _, rfl⟩ := List.mem_map.1 hw; exact jZ s _ _
theorem l3 (a : Int) : df.f a = some (decide (upP a)) := by
 unfold df.f upP
 by_cases h : a ≥ 65
 ·rw [if_pos h]; congr 1; exact decide_eq_decide.2 (by omega)
 ·rw [if_neg h]; congr 1; symm; exact decide_eq_false (by omega)
theorem jx (c : Int) : dh.f c = some (decide (fT c)) := by
 simp only [dh.f, l3, hU, ii, Option.bind_some, decide_eq_true_eq]; by_cases h1 : upP c
 ·rw [if_pos h1, decide_eq_true (show fT c from .inl h1)]
 ·rw [if_neg h1]; by_cases h2 : kG c
  ·rw [if_pos h2, decide_eq_true (show fT c from .inr (.inl h2))]
  ·rw [if_neg h2]; congr 1; exact decide_eq_decide.2 ⟨fun h => .inr (.inr h), fun h => (h.resolve_left h1).resolve_left h2⟩
theorem m5 (s : ByteArray) (hn : s.size < 1099511627776) : ∀ (d : Nat),
  (∀ (i : Nat) (acc : List S90), i + d = s.size → acc.length ≤ i → Ev (fun k => bd.l0 k s acc (i : Int)) (acc ++ (cA i none ((ak s).drop i)).map (gf s))) ∧
  (∀ (i j : Nat) (acc : List S90), i + d = s.size → j < i → acc.length ≤ i → Ev (fun k => bd.l1 k s acc (i : Int) (j : Int)) (acc ++ (cA i (some j) ((ak s).drop i)).map (gf s))) := by
 have hb := bR s; intro d; induction d with
 | zero =>
  have h0 : ∀ (i : Nat) (acc : List S90), s.size ≤ i → Ev (fun k => bd.l0 k s acc (i : Int)) acc := by
   intro i acc hi; refine Ev.step (fun k => bd.l0.eq_2 _ _ _ _) ?_; simp only [if_neg (show ¬ ((i : Int) < (s.size : Int)) by omega)]; exact Ev.now _
  constructor
  ·intro i acc hi hacc; rw [List.drop_of_length_le (by omega)]; simpa [cA] using h0 i acc (by omega)
  ·intro i j acc hi hj hacc; rw [List.drop_of_length_le (by omega)]; refine Ev.step (fun k => bd.l1.eq_2 _ _ _ _ _) ?_; simp only [if_neg (show ¬ ((i : Int) < (s.size : Int)) by omega), if_pos (show (i : Int) > (j : Int) by omega), if_pos (show 0 ≤ (j : Int) by omega), if_pos (show (j : Int) ≤ (i : Int) by omega), if_pos (show (i : Int) ≤ (s.size : Int) by omega), if_pos (show acc.length < 4398046511104 by omega), bY i (by omega), bJ]; exact h0 (i + 1) _ (by omega)
 | succ d ih =>
  have h1 : ∀ (i j : Nat) (acc : List S90), i + (d + 1) = s.size → j ≤ i → acc.length ≤ i → Ev (fun k => bd.l1 k s acc (i : Int) (j : Int)) (acc ++ (cA i (if j < i then some j else none) ((ak s).drop i)).map (gf s)) := by
   intro i j acc hi hj hacc; refine Ev.step (fun k => bd.l1.eq_2 _ _ _ _ _) ?_; simp only [if_pos (show ((i : Int) < (s.size : Int)) by omega), if_pos (show 0 ≤ (i : Int) by omega), gI s i (by omega), jx, Option.bind_some, decide_eq_true_eq, bY i (by omega)]; rw [cX (ak s) i (by omega)]; by_cases hw : fT (ak s)[i]
   ·simp only [if_pos hw]; have := ih.2 (i + 1) j acc (by omega) (by omega) (by omega); by_cases hji : j < i
    ·simpa only [if_pos hji, cA, if_pos hw] using this
    ·obtain rfl : j = i := by omega
     simpa only [if_neg hji, cA, if_pos hw] using this
   ·simp only [if_neg hw]; by_cases hji : j < i
    ·simp only [if_pos hji, if_pos (show (i : Int) > (j : Int) by omega), if_pos (show 0 ≤ (j : Int) by omega), if_pos (show (j : Int) ≤ (i : Int) by omega), if_pos (show (i : Int) ≤ (s.size : Int) by omega), if_pos (show acc.length < 4398046511104 by omega), bJ, cA, if_neg hw]; have := ih.1 (i + 1) (acc ++ [gf s (j, i)]) (by omega) (by simp; omega); rw [List.append_assoc] at this; exact this
    ·simp only [if_neg hji, if_neg (show ¬ (i : Int) > (j : Int) by omega), cA, if_neg hw]; exact ih.1 (i + 1) acc (by omega) (by omega)
  constructor
  ·intro i acc hi hacc; refine Ev.step (fun k => bd.l0.eq_2 _ _ _ _) ?_; simp only [if_pos (show ((i : Int) < (s.size : Int)) by omega)]; have := h1 i i acc hi (Nat.le_refl _) hacc; simpa only [if_neg (Nat.lt_irrefl i)] using this
  ·intro i j acc hi hj hacc; have := h1 i j acc hi (by omega) hacc; simpa only [if_pos hj] using this
theorem lW (s : ByteArray) (hn : s.size < 1099511627776) : Ev (fun k => bd.f k s) (eX s) := by
 have := (m5 s hn s.size).1 0 [] (by omega) (by simp); rw [List.nil_append, List.drop_zero] at this; exact this
theorem kU : ∀ (l : List Int) (p : Nat) (o : Option Nat), (cA p o l).length ≤ l.length + (if o.isSome then 1 else 0) := by
 intro l; induction l with
 | nil => intro p o; cases o <;> simp [cA]
 | cons c cs ih =>
  intro p o; cases o with
  | none =>
   by_cases h : fT c
   ·simp only [cA, if_pos h]; have := ih (p + 1) (some p); simp at this ⊢; omega
   ·simp only [cA, if_neg h]; have := ih (p + 1) none; simp at this ⊢; omega
  | some st =>
   by_cases h : fT c
   ·simp only [cA, if_pos h]; have := ih (p + 1) (some st); simp at this ⊢; omega
   ·simp only [cA, if_neg h]; have := ih (p + 1) none; simp at this ⊢; omega
theorem fx (s : ByteArray) : (eX s).length ≤ s.size := by
 unfold eX
 rw [List.length_map]; have := kU (ak s) 0 none; rw [bR] at this; simpa using this
theorem lT (s : ByteArray) (hs : s.size ≤ 1048578) : Ev (fun k => cz.f k s) (fE s) := by
 simp only [cz.f]; have hl := fx s; refine Ev.bind (lW s (by omega)) ?_; exact lN (eX s) (by omega) (fun w hw => by have := ia s w hw; omega) (eX s).length 0 [] (by omega) (by simp)
theorem rH (c : Int) : dv c = if upP c then c + 32 else c := by
 unfold dv
 by_cases h : 65 ≤ c ∧ c ≤ 90
 ·rw [if_pos h, if_pos (show upP c from h)]
 ·rw [if_neg h, if_neg (show ¬ upP c from h)]
theorem gn (c : Int) (h0 : 0 ≤ c) (h1 : c ≤ 255) : cC.f c = some (if upP c then c + 32 else c) := by
 unfold cC.f
 by_cases h : upP c
 ·have h' : 65 ≤ c ∧ c ≤ 90 := h; rw [if_pos h'.1, if_pos h'.2, if_pos h]; congr 1; omega
 ·have h' : ¬ (65 ≤ c ∧ c ≤ 90) := h; rw [if_neg h]; by_cases h2 : c ≥ 65
  ·rw [if_pos h2, if_neg (by omega)]
  ·rw [if_neg h2]
theorem nb (s : ByteArray) (hn : s.size < 70368744177664) : ∀ (d i : Nat) (acc : List Int), i + d = s.size → acc.length ≤ i →
  Ev (fun k => dd.l0 k s acc (i : Int)) (strOfNums (acc ++ ((ak s).drop i).map dv)) := by
 have hb := bR s; have hr := fc s; intro d; induction d with
 | zero =>
  intro i acc hi hacc; refine Ev.step (fun k => dd.l0.eq_2 _ _ _ _) ?_; simp only [if_neg (show ¬ ((i : Int) < (s.size : Int)) by omega)]; rw [List.drop_of_length_le (by omega), List.map_nil, List.append_nil]; exact Ev.now _
 | succ d ih =>
  intro i acc hi hacc; have hc := hr (ak s)[i] (List.getElem_mem _); refine Ev.step (fun k => dd.l0.eq_2 _ _ _ _) ?_; simp only [if_pos (show ((i : Int) < (s.size : Int)) by omega), if_pos (show 0 ≤ (i : Int) by omega), gI s i (by omega), gn _ hc.1 hc.2, Option.bind_some, if_pos (show acc.length < 140737488355328 by omega), bY i (by omega), ← rH]; have := ih (i + 1) (acc ++ [dv (ak s)[i]]) (by omega) (by simp; omega); rw [cX (ak s) i (by omega), List.map_cons]; rw [List.append_assoc, List.singleton_append] at this; exact this
theorem mD (s : ByteArray) (hn : s.size < 70368744177664) : Ev (fun k => dd.f k s) (eH s) := by
 have := nb s hn s.size 0 [] (by omega) (by simp); rw [List.nil_append, List.drop_zero] at this; exact this
open Classical in
theorem kn (s : ByteArray) (l : List ByteArray) (hl : l.length < 100) : ∀ (d i : Nat), i + d = l.length → Ev (fun k => bG.l0 k s l (i : Int)) (decide (s ∈ l.drop i)) := by
 intro d; induction d with
 | zero =>
  intro i hi; refine Ev.step (fun k => bG.l0.eq_2 _ _ _ _) ?_; simp only [if_neg (show ¬ ((i : Int) < (l.length : Int)) by omega)]; refine cm (fun h => ?_) (Ev.now _); rw [List.drop_eq_nil_of_le (by omega)] at h; simp at h
 | succ d ih =>
  intro i hi; refine Ev.step (fun k => bG.l0.eq_2 _ _ _ _) ?_; have e := List.drop_eq_getElem_cons (l := l) (i := i) (by omega); simp only [if_pos (show ((i : Int) < (l.length : Int)) by omega), if_pos (show 0 ≤ (i : Int) by omega), f5 l i (by omega), bY i (by omega), toList_inj]; by_cases h : l[i] = s
  ·simp only [if_pos h]; exact iW (by rw [e, h]; exact List.mem_cons_self ..) (Ev.now _)
  ·simp only [if_neg h]; refine cL ?_ (ih (i + 1) (by omega)); rw [e, List.mem_cons]; exact ⟨.inr, fun h2 => h2.resolve_left (fun h3 => h h3.symm)⟩
open Classical in
theorem gQ (s : ByteArray) : Ev (fun k => bG.f k s) (decide (s ∈ cE)) := by
 simp only [bG.f]; exact kn s cE (by decide) 6 0 rfl
open Classical in
theorem mx (x : ByteArray) (hx : x.size ≤ 100) (b : Bool) (hb : b = true → 1 ≤ x.size) : Ev (fun k => bA.j1 k x (x.size : Int) b) (fj (if b = true then x.extract 0 (x.size - 1) else x)) := by
 refine Ev.step (fun k => bA.j1.eq_2 _ _ _ _) ?_; cases b with
 | false =>
  simp only [if_neg (show ¬ (false = true) by decide)]; refine Ev.bind (gQ x) ?_; unfold fj
  by_cases h : x ∈ cE
  ·simp only [if_pos h, decide_eq_true h, if_true]; exact Ev.now _
  ·simp only [if_neg h, decide_eq_false h, if_neg (show ¬ (false = true) by decide)]; exact Ev.now _
 | true =>
  have h1 := hb rfl; simp only [if_true, bC (x := (x.size : Int) - 1) (by omega) (by omega), if_pos (show 0 ≤ (x.size : Int) - 1 by omega), if_pos (show (x.size : Int) - 1 ≤ (x.size : Int) by omega), show ((x.size : Int) - 1).toNat = x.size - 1 by omega]; refine Ev.bind (gQ _) ?_; unfold fj
  by_cases h : x.extract 0 (x.size - 1) ∈ cE
  ·simp only [if_pos h, decide_eq_true h, if_true]; exact Ev.now _
  ·simp only [if_neg h, decide_eq_false h, if_neg (show ¬ (false = true) by decide)]; exact Ev.now _
theorem iH (x : ByteArray) (hx : x.size ≤ 100) : Ev (fun k => bA.j0 k x) (fj (noS x)) := by
 refine Ev.step (fun k => bA.j0.eq_2 _ _) ?_; have key : ∀ b : Bool, b = i7 x → Ev (fun k => bA.j1 k x (x.size : Int) b) (fj (noS x)) := by
  intro b hb; have := mx x hx b (fun h => by
   rw [hb] at h; have := (of_decide_eq_true h).1; omega)
  rw [hb] at this ⊢; exact this
 by_cases h3 : (x.size : Int) > 3
 ·simp only [if_pos h3, bC (x := (x.size : Int) - 1) (by omega) (by omega), bC (x := (x.size : Int) - 2) (by omega) (by omega), if_pos (show 0 ≤ (x.size : Int) - 1 by omega), if_pos (show (x.size : Int) - 1 < (x.size : Int) by omega), if_pos (show 0 ≤ (x.size : Int) - 2 by omega), if_pos (show (x.size : Int) - 2 < (x.size : Int) by omega)]; by_cases h4 : bt x ((x.size : Int) - 1) = 115
  ·simp only [if_pos h4]; refine key _ ?_; unfold i7
   by_cases h5 : bt x ((x.size : Int) - 2) = 115
   ·rw [decide_eq_false (fun h => h.2.2 h5)]; simp [h5]
   ·rw [decide_eq_true ⟨by omega, h4, h5⟩]; simp [h5]
  ·simp only [if_neg h4]; refine key _ ?_; unfold i7
   rw [decide_eq_false (fun h => h4 h.2.1)]
 ·simp only [if_neg h3]; refine key _ ?_; unfold i7
  rw [decide_eq_false (fun h => by have := h.1; omega)]
theorem oy (w : ByteArray) (h : 12 < w.size) : gJ w = w.extract 0 12 := by unfold gJ; rw [Nat.min_eq_right (by omega)]
theorem mC (w : ByteArray) : w.extract 0 w.size = w := by
 apply ByteArray.ext
 rw [ByteArray.data_extract]; exact Array.extract_size
theorem nv (w : ByteArray) (h : w.size ≤ 12) : gJ w = w := by unfold gJ; rw [Nat.min_eq_left h]; exact mC w
theorem mA (s : ByteArray) (hs : s.size < 70368744177664) : Ev (fun k => bA.f k s) (gu s) := by
 simp only [bA.f]; have hz := lb s; refine Ev.bind (mD s hs) ?_; unfold gu
 by_cases h : ((eH s).size : Int) > 12
 ·simp only [if_pos h, if_pos (show (0 : Int) ≤ 12 by omega), if_pos (show (12 : Int) ≤ ((eH s).size : Int) by omega)]; rw [oy _ (by omega)]; exact iH _ (by rw [extract_size _ _ (by omega)]; omega)
 ·simp only [if_neg h]; rw [nv _ (by omega)]; exact iH _ (by omega)
theorem lH (l : List S90) (hn : l.length ≤ 1048578) (hs : ∀ w ∈ l, w.f0.size < 70368744177664) : ∀ (d i : Nat) (acc : List ByteArray), i + d = l.length → acc.length ≤ i →
  Ev (fun k => cy.l0 k acc l (i : Int)) (acc ++ (l.drop i).map (fun w => gu w.f0)) := by
 intro d; induction d with
 | zero =>
  intro i acc hi ha; refine Ev.step (fun k => cy.l0.eq_2 _ _ _ _) ?_; simp only [if_neg (show ¬ ((i : Int) < (l.length : Int)) by omega)]; rw [List.drop_eq_nil_of_le (by omega), List.map_nil, List.append_nil]; exact Ev.now _
 | succ d ih =>
  intro i acc hi ha; refine Ev.step (fun k => cy.l0.eq_2 _ _ _ _) ?_; simp only [if_pos (show ((i : Int) < (l.length : Int)) by omega), if_pos (show 0 ≤ (i : Int) by omega), jQ l i (by omega), bY i (by omega)]; refine Ev.bind (mA _ (hs _ (List.getElem_mem (by omega)))) ?_; simp only [if_pos (show acc.length < 8796093022208 by omega)]; have := ih (i + 1) (acc ++ [gu l[i].f0]) (by omega) (by simp; omega); rw [cX l i (by omega), List.map_cons]; rw [List.append_assoc] at this; exact this
theorem gC (c : Int) (h0 : 0 ≤ c) (h1 : c ≤ 255) : dy.f c = some (decide (fT c)) := by
 simp only [dy.f, gn c h0 h1, Option.bind_some]; by_cases h : upP c
 ·have h' : 65 ≤ c ∧ c ≤ 90 := h; simp only [if_pos h, if_pos (show c + 32 ≥ 97 by omega), if_pos (show c + 32 ≤ 122 by omega)]; congr 1; symm; exact decide_eq_true (.inl h)
 ·have h' : ¬ (65 ≤ c ∧ c ≤ 90) := h; simp only [if_neg h]; by_cases h2 : c ≥ 97
  ·simp only [if_pos h2]; by_cases h3 : c ≤ 122
   ·simp only [if_pos h3]; congr 1; symm; exact decide_eq_true (.inr (.inl ⟨h2, h3⟩))
   ·simp only [if_neg h3, if_pos (show c ≥ 48 by omega)]; congr 1; exact decide_eq_decide.2 ⟨fun h4 => .inr (.inr ⟨by omega, h4⟩), fun h4 => by rcases h4 with h4 | h4 | h4; exact absurd h4 h; exact absurd h4.2 h3; exact h4.2⟩
  ·simp only [if_neg h2]; by_cases h3 : c ≥ 48
   ·simp only [if_pos h3]; congr 1; exact decide_eq_decide.2 ⟨fun h4 => .inr (.inr ⟨by omega, h4⟩), fun h4 => by rcases h4 with h4 | h4 | h4; exact absurd h4 h; exact absurd h4.1 h2; exact h4.2⟩
   ·simp only [if_neg h3]; congr 1; symm; exact decide_eq_false (fun h4 => by rcases h4 with h4 | h4 | h4; exact absurd h4 h; exact absurd h4.1 h2; exact absurd h4.1 h3)
theorem m8 (s : ByteArray) (hn : s.size < 1099511627776) : ∀ (d : Nat),
  (∀ (i : Nat) (acc : List S90), i + d = s.size → acc.length ≤ i → Ev (fun k => aZ.l0 k s acc (i : Int)) (acc ++ (cA i none ((ak s).drop i)).map (gf s))) ∧
  (∀ (i j : Nat) (acc : List S90), i + d = s.size → j < i → acc.length ≤ j → Ev (fun k => aZ.l1 k s acc (j : Int) (i : Int)) (acc ++ (cA i (some j) ((ak s).drop i)).map (gf s))) := by
 have hb := bR s; intro d; induction d with
 | zero =>
  have h0 : ∀ (i : Nat) (acc : List S90), s.size ≤ i → Ev (fun k => aZ.l0 k s acc (i : Int)) acc := by
   intro i acc hi; refine Ev.step (fun k => aZ.l0.eq_2 _ _ _ _) ?_; simp only [if_neg (show ¬ ((i : Int) < (s.size : Int)) by omega)]; exact Ev.now _
  constructor
  ·intro i acc hi hacc; rw [List.drop_of_length_le (by omega)]; simpa [cA] using h0 i acc (by omega)
  ·intro i j acc hi hj hacc; rw [List.drop_of_length_le (by omega)]; refine Ev.step (fun k => aZ.l1.eq_2 _ _ _ _ _) ?_; simp only [if_neg (show ¬ ((i : Int) < (s.size : Int)) by omega), if_neg (show ¬ (i : Int) = (j : Int) by omega), if_pos (show 0 ≤ (j : Int) by omega), if_pos (show (j : Int) ≤ (i : Int) by omega), if_pos (show (i : Int) ≤ (s.size : Int) by omega), if_pos (show acc.length < 4398046511104 by omega), bJ]; exact h0 i _ (by omega)
 | succ d ih =>
  have hr : ∀ c ∈ ak s, 0 ≤ c ∧ c ≤ 255 := fc s; have hstep : ∀ (i : Nat) (acc : List S90), i + (d + 1) = s.size → acc.length ≤ i → Ev (fun k => aZ.l0 k s acc (i : Int)) (acc ++ (cA i none ((ak s).drop i)).map (gf s)) := by
   intro i acc hi hacc; have hc := hr (ak s)[i] (List.getElem_mem _); refine Ev.step (fun k => aZ.l0.eq_2 _ _ _ _) ?_; simp only [if_pos (show ((i : Int) < (s.size : Int)) by omega)]; refine Ev.step (fun k => aZ.l1.eq_2 _ _ _ _ _) ?_; simp only [if_pos (show ((i : Int) < (s.size : Int)) by omega), if_pos (show 0 ≤ (i : Int) by omega), gI s i (by omega), gC _ hc.1 hc.2, Option.bind_some, decide_eq_true_eq, bY i (by omega), if_true]; rw [cX (ak s) i (by omega)]; by_cases hw : fT (ak s)[i]
   ·simp only [if_pos hw, cA]; exact ih.2 (i + 1) i acc (by omega) (by omega) (by omega)
   ·simp only [if_neg hw, cA]; exact ih.1 (i + 1) acc (by omega) (by omega)
  refine ⟨hstep, ?_⟩; intro i j acc hi hj hacc; have hc := hr (ak s)[i] (List.getElem_mem _); refine Ev.step (fun k => aZ.l1.eq_2 _ _ _ _ _) ?_; simp only [if_pos (show ((i : Int) < (s.size : Int)) by omega), if_pos (show 0 ≤ (i : Int) by omega), gI s i (by omega), gC _ hc.1 hc.2, Option.bind_some, decide_eq_true_eq, bY i (by omega)]; have hd := cX (ak s) i (by omega); by_cases hw : fT (ak s)[i]
  ·rw [hd]; simp only [if_pos hw, cA]; exact ih.2 (i + 1) j acc (by omega) (by omega) (by omega)
  ·simp only [if_neg hw, if_neg (show ¬ (i : Int) = (j : Int) by omega), if_pos (show 0 ≤ (j : Int) by omega), if_pos (show (j : Int) ≤ (i : Int) by omega), if_pos (show (i : Int) ≤ (s.size : Int) by omega), if_pos (show acc.length < 4398046511104 by omega), bJ]; have := hstep i (acc ++ [gf s (j, i)]) hi (by simp; omega); rw [hd] at this ⊢; simp only [cA, if_neg hw, List.append_assoc] at this ⊢; exact this
theorem lR (s : ByteArray) (hn : s.size < 1099511627776) : Ev (fun k => aZ.f k s) (eX s) := by
 have := (m8 s hn s.size).1 0 [] (by omega) (by simp); rw [List.nil_append, List.drop_zero] at this; exact this
theorem lI (s : ByteArray) (hs : s.size ≤ 1048578) : Ev (fun k => cy.f k s) (fE s) := by
 simp only [cy.f]; have hl := fx s; refine Ev.bind (lR s (by omega)) ?_; exact lH (eX s) (by omega) (fun w hw => by have := ia s w hw; omega) (eX s).length 0 [] (by omega) (by simp)
theorem lX (s : ByteArray) : (fE s).length = (eX s).length := List.length_map ..
def jr (p : ByteArray × ByteArray) (id x : Int) : S76 := ⟨p.1, p.2, [⟨id, [x]⟩]⟩
def lF (id x : Int) (e : S76) : S76 := ⟨e.f0, e.f1, ff e.f2 id x⟩
open Classical in
noncomputable def el (p : ByteArray × ByteArray) (id x : Int) : List S76 → List S76
 | [] => [jr p id x]
 | e :: l => if ltP (cS e) p then e :: el p id x l else if cS e = p then lF id x e :: l else jr p id x :: e :: l
noncomputable def kk (id : Int) (name : ByteArray) : List ByteArray → Int → List S76 → List S76
 | [], _, L => L
 | t :: ts, x, L => kk id name ts (x + 1) (if t.size = 0 then L else el (name, t) id x L)
open Classical in
noncomputable def g7 (p : ByteArray × ByteArray) (id x : Int) (l : List S76) : List S76 :=
 if ∃ e ∈ l, cS e = p then l.map (fun e => if cS e = p then lF id x e else e) else l ++ [jr p id x]
theorem l9 {p : ByteArray × ByteArray} {id x : Int} {l : List S76} (h : ∀ e ∈ l, cS e ≠ p) : l.map (fun e => if cS e = p then lF id x e else e) = l := by
 have : l.map (fun e => if cS e = p then lF id x e else e) = l.map (fun e => e) := List.map_congr_left (fun e he => if_neg (h e he)); rw [this, List.map_id']
def kf (l : List S76) : Prop := l.Pairwise (fun a b => ltP (cS a) (cS b))
theorem mi (p : ByteArray × ByteArray) (id x : Int) : ∀ {l : List S76}, kf l → (el p id x l).Perm (g7 p id x l)
 | [], _ => by
  rw [el, g7, if_neg (by simp)]; exact List.Perm.refl _
 | e :: l, h => by
  obtain ⟨h1, h2⟩ := List.pairwise_cons.1 h; have ih := mi p id x h2; rw [el]; split
  ·rename_i hlt
   have hne : cS e ≠ p := fun he => fz _ (by rw [← he] at hlt; exact hlt)
   have e2 : g7 p id x (e :: l) = e :: g7 p id x l := by
    unfold g7
    by_cases hc : ∃ y ∈ l, cS y = p
    ·rw [if_pos hc, if_pos (by obtain ⟨y, hy, hk⟩ := hc; exact ⟨y, List.mem_cons_of_mem _ hy, hk⟩), List.map_cons, if_neg hne]
    ·rw [if_neg hc, if_neg (fun ⟨y, hy, hk⟩ => by
      rcases List.mem_cons.1 hy with hy | hy
      ·exact hne (by rw [← hy]; exact hk)
      ·exact hc ⟨y, hy, hk⟩)]
     rfl
   rw [e2]; exact ih.cons _
  ·rename_i hlt
   split
   ·rename_i heq
    have hno : ∀ y ∈ l, cS y ≠ p := fun y hy hk => fz _ (by have := h1 y hy; rw [heq, hk] at this; exact this)
    have e2 : g7 p id x (e :: l) = lF id x e :: l := by
     unfold g7
     rw [if_pos ⟨e, by simp, heq⟩, List.map_cons, if_pos heq, l9 hno]
    rw [e2]
   ·rename_i hne
    have hgt : ltP p (cS e) := by
     rcases fS (cS e) p with h | h | h
     ·exact absurd h hlt
     ·exact absurd h hne
     ·exact h
    have hno : ∀ y ∈ e :: l, cS y ≠ p := fun y hy hk => by
     rcases List.mem_cons.1 hy with hy | hy
     ·exact hne (by rw [← hy]; exact hk)
     ·exact fz _ (by have := fp hgt (h1 y hy); rw [hk] at this; exact this)
    have e2 : g7 p id x (e :: l) = (e :: l) ++ [jr p id x] := by
     unfold g7
     rw [if_neg (fun ⟨y, hy, hk⟩ => hno y hy hk)]
    rw [e2]; exact (List.perm_append_singleton _ _).symm
theorem oc {p : ByteArray × ByteArray} {id x : Int} : ∀ {l : List S76} {y : S76}, y ∈ el p id x l → cS y = p ∨ ∃ e ∈ l, cS y = cS e
 | [], y, h => by
  rw [el, List.mem_singleton] at h; exact .inl (by rw [h]; rfl)
 | e :: l, y, h => by
  rw [el] at h; split at h
  ·rcases List.mem_cons.1 h with h | h
   ·exact .inr ⟨e, by simp, by rw [h]⟩
   ·rcases oc h with h | ⟨z, hz, h⟩
    ·exact .inl h
    ·exact .inr ⟨z, List.mem_cons_of_mem _ hz, h⟩
  ·split at h
   ·rcases List.mem_cons.1 h with h | h
    ·exact .inr ⟨e, by simp, by rw [h]; rfl⟩
    ·exact .inr ⟨y, List.mem_cons_of_mem _ h, rfl⟩
   ·rcases List.mem_cons.1 h with h | h
    ·exact .inl (by rw [h]; rfl)
    ·exact .inr ⟨y, h, rfl⟩
theorem jG (p : ByteArray × ByteArray) (id x : Int) : ∀ {l : List S76}, kf l → kf (el p id x l)
 | [], _ => by rw [el]; exact List.pairwise_singleton _ _
 | e :: l, h => by
  obtain ⟨h1, h2⟩ := List.pairwise_cons.1 h; rw [el]; split
  ·rename_i hlt
   refine List.pairwise_cons.2 ⟨fun y hy => ?_, jG p id x h2⟩; rcases oc hy with hy | ⟨z, hz, hy⟩
   ·rw [hy]; exact hlt
   ·rw [hy]; exact h1 z hz
  ·rename_i hlt
   split
   ·exact List.pairwise_cons.2 ⟨h1, h2⟩
   ·rename_i hne
    have hgt : ltP p (cS e) := by
     rcases fS (cS e) p with h | h | h
     ·exact absurd h hlt
     ·exact absurd h hne
     ·exact h
    refine List.pairwise_cons.2 ⟨fun y hy => ?_, h⟩; rcases List.mem_cons.1 hy with hy | hy
    ·rw [hy]; exact hgt
    ·exact fp hgt (h1 y hy)
theorem qx {p : ByteArray × ByteArray} {id x : Int} {l m : List S76} (h : l.Perm m) : (g7 p id x l).Perm (g7 p id x m) := by
 unfold g7
 by_cases hc : ∃ e ∈ l, cS e = p
 ·rw [if_pos hc, if_pos (by obtain ⟨e, he, hk⟩ := hc; exact ⟨e, h.mem_iff.1 he, hk⟩)]; exact h.map _
 ·rw [if_neg hc, if_neg (fun ⟨e, he, hk⟩ => hc ⟨e, h.mem_iff.2 he, hk⟩)]; exact h.append_right _
theorem kC {p : ByteArray × ByteArray} {id x : Int} : ∀ {G : List ((ByteArray × ByteArray) × List S50)} {y : ByteArray × ByteArray}, y ∈ (PFnExactIndexTerms.stepG G p id x).map (·.1) → y = p ∨ y ∈ G.map (·.1)
 | [], y, h => by
  rw [PFnExactIndexTerms.stepG] at h; exact .inl (by simpa using h)
 | g :: G, y, h => by
  rw [PFnExactIndexTerms.stepG] at h; split at h
  ·rename_i heq
   rw [List.map_cons] at h; rcases List.mem_cons.1 h with h | h
   ·exact .inl h
   ·exact .inr (by rw [List.map_cons]; exact List.mem_cons_of_mem _ h)
  ·rw [List.map_cons] at h; rcases List.mem_cons.1 h with h | h
   ·exact .inr (by rw [List.map_cons, h]; exact List.mem_cons_self ..)
   ·rcases kC h with h | h
    ·exact .inl h
    ·exact .inr (by rw [List.map_cons]; exact List.mem_cons_of_mem _ h)
theorem gP {p : ByteArray × ByteArray} {id x : Int} : ∀ {G : List ((ByteArray × ByteArray) × List S50)}, (G.map (·.1)).Nodup → ((PFnExactIndexTerms.stepG G p id x).map (·.1)).Nodup
 | [], _ => by rw [PFnExactIndexTerms.stepG]; simp
 | g :: G, hn => by
  rw [List.map_cons, List.nodup_cons] at hn; rw [PFnExactIndexTerms.stepG]; split
  ·rename_i heq
   rw [List.map_cons, List.nodup_cons]; exact ⟨by show p ∉ _; rw [← heq]; exact hn.1, hn.2⟩
  ·rename_i hne
   rw [List.map_cons, List.nodup_cons]; refine ⟨fun h => ?_, gP hn.2⟩; rcases kC h with h | h
   ·exact hne h
   ·exact hn.1 h
theorem k3 {p : ByteArray × ByteArray} {id x : Int} : ∀ {G : List ((ByteArray × ByteArray) × List S50)}, (G.map (·.1)).Nodup → (PFnExactIndexTerms.stepG G p id x).map toE = g7 p id x (G.map toE)
 | [], _ => by
  rw [PFnExactIndexTerms.stepG, g7, if_neg (by simp)]; rfl
 | g :: G, hn => by
  rw [List.map_cons, List.nodup_cons] at hn; have ih := k3 (p := p) (id := id) (x := x) hn.2; have hkey : ∀ y : (ByteArray × ByteArray) × List S50, cS (toE y) = y.1 := fun y => rfl
  rw [PFnExactIndexTerms.stepG]; split
  ·rename_i heq
   have hno : ∀ y ∈ G.map toE, cS y ≠ p := fun y hy hk => by
    obtain ⟨z, hz, rfl⟩ := List.mem_map.1 hy; rw [hkey] at hk; exact hn.1 (List.mem_map.2 ⟨z, hz, by rw [hk, heq]⟩)
   unfold g7
   rw [List.map_cons, List.map_cons, if_pos ⟨toE g, by simp, by rw [hkey]; exact heq⟩, List.map_cons, if_pos (by rw [hkey]; exact heq), l9 hno]; subst heq; rfl
  ·rename_i hne
   rw [List.map_cons, ih, List.map_cons]; unfold g7
   by_cases hc : ∃ y ∈ G.map toE, cS y = p
   ·rw [if_pos hc, if_pos (by obtain ⟨y, hy, hk⟩ := hc; exact ⟨y, List.mem_cons_of_mem _ hy, hk⟩), List.map_cons, if_neg (by rw [hkey]; exact hne)]
   ·rw [if_neg hc, if_neg (fun ⟨y, hy, hk⟩ => by
     rcases List.mem_cons.1 hy with hy | hy
     ·rw [hy, hkey] at hk; exact hne hk
     ·exact hc ⟨y, hy, hk⟩)]
    rfl
theorem nX (G : List ((ByteArray × ByteArray) × List S50)) : (G.map toE).map cS = G.map (·.1) := by
 rw [List.map_map]; rfl
theorem qB {G : List ((ByteArray × ByteArray) × List S50)} (hn : (G.map (·.1)).Nodup) (p : ByteArray × ByteArray) (id x : Int) : ee ((PFnExactIndexTerms.stepG G p id x).map toE) = el p id x (ee (G.map toE)) := by
 have hs : kf (ee (G.map toE)) := fm _ (by rw [nX]; exact hn); refine jD ?_ (fm _ (by rw [nX]; exact gP hn)) (jG p id x hs); refine (fD _).trans ?_; rw [k3 hn]; exact (qx (fD _).symm).trans (mi p id x hs).symm
theorem io (id : Int) (name : ByteArray) : ∀ (ts : List ByteArray) (x : Int) (G : List ((ByteArray × ByteArray) × List S50)), (G.map (·.1)).Nodup →
  kk id name ts x (ee (G.map toE)) = ee ((fO id name ts x G).map toE) ∧ ((fO id name ts x G).map (·.1)).Nodup
 | [], _, G, hn => ⟨rfl, hn⟩
 | t :: ts, x, G, hn => by
  rw [kk, fO]; by_cases ht : t.size = 0
  ·rw [if_pos ht, if_pos ht]; exact io id name ts (x + 1) G hn
  ·rw [if_neg ht, if_neg ht, ← qB hn]; exact io id name ts (x + 1) _ (gP hn)
def fU (c : Nat) (l : List S76) : Prop := l.length ≤ c ∧ ∀ e ∈ l, e.f2 ≠ [] ∧ LenP c e.f2
theorem gi {n : ByteArray} : ∀ {F : List S92}, (∀ x ∈ F, x.f0 ≠ n) → er n F = (⟨#[]⟩, 0, 0)
 | [], _ => rfl
 | f :: F, h => by
  rw [er, if_neg (h f (by simp))]; exact gi (fun x hx => h x (List.mem_cons_of_mem _ hx))
theorem ga {n : ByteArray} : ∀ {F : List S92} {j : Nat} (hj : j < F.length), F[j].f0 = n → (∀ m (hm : m < j), F[m].f0 ≠ n) → er n F = (F[j].f0, F[j].f1, F[j].f2)
 | [], _, hj, _, _ => by simp at hj
 | f :: F, 0, _, h, _ => by
  rw [er]; have h' : f.f0 = n := h; rw [if_pos h']; rfl
 | f :: F, j + 1, hj, h, hb => by
  have h0 : f.f0 ≠ n := hb 0 (by omega); rw [er, if_neg h0]; exact ga (F := F) (j := j) (by simpa using hj) (by simpa using h) (fun m hm => by have := hb (m + 1) (by omega); simpa using this)
theorem j8 (l : List S92) (n : ByteArray) (hn : l.length < 4611686018427387904) : ∀ (d i : Nat), i + d = l.length → (∀ m (hm : m < l.length), m < i → l[m].f0 ≠ n) →
  ∃ r, Ev (fun k => a8.l0 k l n (i : Int)) r ∧ ((r = -1 ∧ ∀ x ∈ l, x.f0 ≠ n) ∨ ∃ (j : Nat) (hj : j < l.length), r = (j : Int) ∧ l[j].f0 = n ∧ ∀ m (hm : m < j), l[m].f0 ≠ n) := by
 intro d; induction d with
 | zero =>
  intro i hi hb; refine ⟨-1, Ev.step (fun k => a8.l0.eq_2 _ _ _ _) ?_, .inl ⟨rfl, fun x hx => ?_⟩⟩
  ·simp only [if_neg (show ¬ ((i : Int) < (l.length : Int)) by omega)]; exact Ev.now _
  ·obtain ⟨m, hm, rfl⟩ := List.mem_iff_getElem.1 hx; exact hb m hm (by omega)
 | succ d ih =>
  intro i hi hb; by_cases h : l[i].f0 = n
  ·refine ⟨(i : Int), Ev.step (fun k => a8.l0.eq_2 _ _ _ _) ?_, .inr ⟨i, by omega, rfl, h, fun m hm => hb m (by omega) hm⟩⟩; simp only [if_pos (show ((i : Int) < (l.length : Int)) by omega), if_pos (show 0 ≤ (i : Int) by omega), eu l i (by omega), toList_inj, if_pos h]; exact Ev.now _
  ·obtain ⟨r, hr, hq⟩ := ih (i + 1) (by omega) (fun m hm hlt => by
    rcases Nat.lt_or_ge m i with h1 | h1
    ·exact hb m hm h1
    ·obtain rfl : m = i := by omega
     exact h)
   refine ⟨r, Ev.step (fun k => a8.l0.eq_2 _ _ _ _) ?_, hq⟩; simp only [if_pos (show ((i : Int) < (l.length : Int)) by omega), if_pos (show 0 ≤ (i : Int) by omega), eu l i (by omega), toList_inj, if_neg h, bY i (by omega)]; exact hr
theorem fi (l : List S92) (n : ByteArray) (hn : l.length < 4611686018427387904) :
  ∃ r, Ev (fun k => a8.f k l n) r ∧ ((r = -1 ∧ ∀ x ∈ l, x.f0 ≠ n) ∨ ∃ (j : Nat) (hj : j < l.length), r = (j : Int) ∧ l[j].f0 = n ∧ ∀ m (hm : m < j), l[m].f0 ≠ n) :=
 j8 l n hn l.length 0 (by omega) (fun m hm h => absurd h (by omega))
theorem j7 (F : List S92) (hF : F.length ≤ 1048576) (n : ByteArray) : Ev (fun k => dH.f k F n 1) (eB F n == 1) := by
 simp only [dH.f]; obtain ⟨r, hr, hq⟩ := fi F n (by omega); refine Ev.bind hr ?_; rcases hq with ⟨rfl, h⟩ | ⟨j, hj, rfl, h1, h2⟩
 ·simp only [if_neg (show ¬ ((-1 : Int) ≥ 0) by omega), eB, gi h]; exact Ev.now _
 ·simp only [if_pos (show ((j : Int) ≥ 0) by omega), if_pos (show (0 : Int) ≤ (j : Int) by omega), if_pos (show ((j : Int) < (F.length : Int)) by omega), eu F j hj, eB, ga hj h1 h2]; exact Ev.now _
theorem iy {c d : Nat} {l : List S76} (h : fU c l) (hd : c ≤ d) : fU d l :=
 ⟨by have := h.1; omega, fun e he => ⟨(h.2 e he).1, by have := (h.2 e he).2.1; omega, fun q hq => by have := (h.2 e he).2.2 q hq; omega⟩⟩
theorem rR (ps : List S50) (id x : Int) : ff ps id x ≠ [] := by
 unfold ff
 cases hl : ps.getLast? with
 | none => simp
 | some q =>
  simp only; split
  ·intro h; have := congrArg List.length h; rw [List.length_set] at this; have h2 : ps = [] := List.eq_nil_of_length_eq_zero this; rw [h2] at hl; simp at hl
  ·simp
theorem kw {c : Nat} {p : ByteArray × ByteArray} {id x : Int} : ∀ {l : List S76}, (∀ e ∈ l, e.f2 ≠ [] ∧ LenP c e.f2) → (el p id x l).length ≤ l.length + 1 ∧ ∀ e ∈ el p id x l, e.f2 ≠ [] ∧ LenP (c + 1) e.f2
 | [], _ => by
  rw [el]; exact ⟨by simp, fun e he => by rw [List.mem_singleton] at he; rw [he]; exact ⟨by simp [jr], by simp [jr, LenP]⟩⟩
 | y :: l, h => by
  have hw : ∀ e ∈ l, e.f2 ≠ [] ∧ LenP (c + 1) e.f2 := fun e he => by
   have := h e (List.mem_cons_of_mem _ he); exact ⟨this.1, by have := this.2.1; omega, fun q hq => by have := this.2.2 q hq; omega⟩
  have hy := h y (by simp); have hy2 : y.f2 ≠ [] ∧ LenP (c + 1) y.f2 := ⟨hy.1, by have := hy.2.1; omega, fun q hq => by have := hy.2.2 q hq; omega⟩; rw [el]; split
  ·have ih := kw (c := c) (p := p) (id := id) (x := x) (l := l) (fun e he => h e (List.mem_cons_of_mem _ he)); refine ⟨by simp; exact ih.1, fun e he => ?_⟩; rcases List.mem_cons.1 he with he | he
   ·rw [he]; exact hy2
   ·exact ih.2 e he
  ·split
   ·refine ⟨by simp, fun e he => ?_⟩; rcases List.mem_cons.1 he with he | he
    ·rw [he]; exact ⟨rR _ _ _, LenP.step hy.2 id x⟩
    ·exact hw e he
   ·refine ⟨by simp, fun e he => ?_⟩; rcases List.mem_cons.1 he with he | he
    ·rw [he]; exact ⟨by simp [jr], by simp [jr, LenP]⟩
    ·rcases List.mem_cons.1 he with he | he
     ·rw [he]; exact hy2
     ·exact hw e he
theorem o4 {c : Nat} {l : List S76} (h : fU c l) (p : ByteArray × ByteArray) (id x : Int) : fU (c + 1) (el p id x l) := by
 have := kw (c := c) (p := p) (id := id) (x := x) h.2; exact ⟨by have := h.1; omega, this.2⟩
theorem f9 : ∀ (x y : List UInt8), Op.bytesLess x y = decide (x < y)
 | [], [] => by simp [Op.bytesLess]
 | _ :: _, [] => by simp [Op.bytesLess]
 | [], _ :: _ => by simp [Op.bytesLess]
 | a :: x, b :: y => by
  rw [Op.bytesLess, f9 x y]; simp only [List.cons_lt_cons_iff]; by_cases h1 : a < b <;> by_cases h2 : a = b <;> by_cases h3 : x < y <;> simp [h1, h2, h3]
theorem fW (l : List S76) (j : Nat) (h : j < l.length) : aj l (j : Int) = l[j] := by
 unfold aj; simp [List.getD_eq_getElem?_getD, List.getElem?_eq_getElem h]
theorem sa (l : List S76) (p : ByteArray × ByteArray) (id x : Int) (hn : l.length ≤ 1099511627776) : ∀ (d i : Nat), i + d = l.length →
  ∃ (j : Nat) (b : Bool), Ev (fun k => bB.l0 k l p.1 p.2 (i : Int)) ((j : Int), b) ∧ i ≤ j ∧ j ≤ l.length ∧ (b = true → ∃ h : j < l.length, el p id x (l.drop i) = (l.drop i).set (j - i) (lF id x l[j])) ∧
   (b = false → el p id x (l.drop i) = (l.drop i).take (j - i) ++ [jr p id x] ++ l.drop j) := by
 intro d; induction d with
 | zero =>
  intro i hi; refine ⟨i, false, Ev.step (fun k => bB.l0.eq_2 _ _ _ _ _) ?_, Nat.le_refl _, by omega, fun h => (by cases h), fun _ => ?_⟩
  ·simp only [if_neg (show ¬ ((i : Int) < (l.length : Int)) by omega)]; exact Ev.now _
  ·rw [List.drop_eq_nil_of_le (by omega), el]; simp
 | succ d ih =>
  intro i hi; have hil : i < l.length := by omega
  have hlt : ltP (cS l[i]) p ↔ (l[i].f0.toList < p.1.toList ∨ l[i].f0.toList = p.1.toList ∧ l[i].f1.toList < p.2.toList) := Iff.rfl; have next : ltP (cS l[i]) p → ∃ (j : Nat) (b : Bool), Ev (fun k => bB.l0 k l p.1 p.2 ((i + 1 : Nat) : Int)) ((j : Int), b) ∧ i ≤ j ∧ j ≤ l.length ∧ (b = true → ∃ h : j < l.length, el p id x (l.drop i) = (l.drop i).set (j - i) (lF id x l[j])) ∧
   (b = false → el p id x (l.drop i) = (l.drop i).take (j - i) ++ [jr p id x] ++ l.drop j) := by
   intro h; obtain ⟨j, b, h1, h2, h3, h4, h5⟩ := ih (i + 1) (by omega); have e1 : el p id x (l.drop i) = l[i] :: el p id x (l.drop (i + 1)) := by rw [cX l i hil, el, if_pos h]
   have e2 : j - i = (j - (i + 1)) + 1 := by omega
   refine ⟨j, b, h1, by omega, h3, fun hb => ?_, fun hb => ?_⟩
   ·obtain ⟨hj, h4⟩ := h4 hb; exact ⟨hj, by rw [e1, h4, e2, cX l i hil, List.set_cons_succ]⟩
   ·rw [e1, h5 hb, e2, cX l i hil, List.take_succ_cons]; rfl
  have stop : ∀ b : Bool, ¬ ltP (cS l[i]) p → (b = true ↔ cS l[i] = p) → ∃ (j : Nat) (b' : Bool), Ev (fun _ : Nat => some ((i : Int), b)) ((j : Int), b') ∧ i ≤ j ∧ j ≤ l.length ∧ (b' = true → ∃ h : j < l.length, el p id x (l.drop i) = (l.drop i).set (j - i) (lF id x l[j])) ∧
   (b' = false → el p id x (l.drop i) = (l.drop i).take (j - i) ++ [jr p id x] ++ l.drop j) := by
   intro b h hb; refine ⟨i, b, Ev.now _, Nat.le_refl _, by omega, fun hb' => ⟨hil, ?_⟩, fun hb' => ?_⟩
   ·rw [Nat.sub_self, cX l i hil, el, if_neg h, if_pos (hb.1 hb'), List.set_cons_zero]
   ·have hk : cS l[i] ≠ p := fun hk => by rw [hb.2 hk] at hb'; cases hb'
    rw [Nat.sub_self, cX l i hil, el, if_neg h, if_neg hk, List.take_zero]; rfl
  have lift : ∀ {g : Nat → Option (Int × Bool)}, (∃ (j : Nat) (b : Bool), Ev g ((j : Int), b) ∧ i ≤ j ∧ j ≤ l.length ∧ (b = true → ∃ h : j < l.length, el p id x (l.drop i) = (l.drop i).set (j - i) (lF id x l[j])) ∧
   (b = false → el p id x (l.drop i) = (l.drop i).take (j - i) ++ [jr p id x] ++ l.drop j)) → (∀ k, bB.l0 (k + 1) l p.1 p.2 (i : Int) = g k) → ∃ (j : Nat) (b : Bool), Ev (fun k => bB.l0 k l p.1 p.2 (i : Int)) ((j : Int), b) ∧ i ≤ j ∧ j ≤ l.length ∧ (b = true → ∃ h : j < l.length, el p id x (l.drop i) = (l.drop i).set (j - i) (lF id x l[j])) ∧
   (b = false → el p id x (l.drop i) = (l.drop i).take (j - i) ++ [jr p id x] ++ l.drop j) := by
   intro g ⟨j, b, h1, h2⟩ he; exact ⟨j, b, Ev.step he h1, h2⟩
  have hgo : ∀ k, bB.l0 (k + 1) l p.1 p.2 (i : Int) = if Op.bytesLess l[i].f0.toList p.1.toList = true then bB.l0 k l p.1 p.2 ((i + 1 : Nat) : Int) else if l[i].f0.toList = p.1.toList then if Op.bytesLess l[i].f1.toList p.2.toList = true then bB.l0 k l p.1 p.2 ((i + 1 : Nat) : Int) else some ((i : Int), l[i].f1.toList == p.2.toList) else some ((i : Int), false) := by
   intro k; rw [bB.l0.eq_2]; simp only [if_pos (show ((i : Int) < (l.length : Int)) by omega), if_pos (show 0 ≤ (i : Int) by omega), fW l i hil, bY i (by omega)]
  by_cases c1 : l[i].f0.toList < p.1.toList
  ·refine lift (next (hlt.2 (.inl c1))) (fun k => ?_); rw [hgo k, if_pos (by rw [f9]; exact decide_eq_true c1)]
  ·by_cases c2 : l[i].f0.toList = p.1.toList
   ·by_cases c3 : l[i].f1.toList < p.2.toList
    ·refine lift (next (hlt.2 (.inr ⟨c2, c3⟩))) (fun k => ?_); rw [hgo k, if_neg (by rw [f9]; simpa using c1), if_pos c2, if_pos (by rw [f9]; exact decide_eq_true c3)]
    ·refine lift (stop (l[i].f1.toList == p.2.toList) (fun h => ?_) ?_) (fun k => ?_)
     ·rcases hlt.1 h with h | h
      ·exact c1 h
      ·exact c3 h.2
     ·rw [beq_iff_eq]; constructor
      ·intro h; exact Prod.ext (toList_inj.1 c2) (toList_inj.1 h)
      ·intro h; rw [← h]; rfl
     ·rw [hgo k, if_neg (by rw [f9]; simpa using c1), if_pos c2, if_neg (by rw [f9]; simpa using c3)]
   ·refine lift (stop false (fun h => ?_) ⟨fun h => (by cases h), fun h => absurd (by rw [← h]; rfl) c2⟩) (fun k => ?_)
    ·rcases hlt.1 h with h | h
     ·exact c1 h
     ·exact c2 h.1
    ·rw [hgo k, if_neg (by rw [f9]; simpa using c1), if_neg c2]
theorem kP (l : List S76) (p : ByteArray × ByteArray) (id x : Int) (hg : fU 999999 l) : Ev (fun k => cn.f k l p.1 p.2 id x) (el p id x l) := by
 have hlen := hg.1; obtain ⟨j, b, h1, _, h2, h3, h4⟩ := sa l p id x (by omega) l.length 0 (by omega); simp only [List.drop_zero, Nat.sub_zero] at h3 h4; have h1' : Ev (fun k => bB.f k l p.1 p.2) ((j : Int), b) := by simpa [bB.f] using h1
 simp only [cn.f]; refine Ev.bind h1' ?_; cases b with
 | true =>
  obtain ⟨hj, h3⟩ := h3 rfl; have he := hg.2 l[j] (List.getElem_mem hj); have hw : wide l[j].f2 = true := by
   unfold wide
   rw [Bool.and_eq_true, decide_eq_true_eq, List.all_eq_true]; exact ⟨by have := he.2.1; omega, fun q hq => by have := he.2.2 q hq; exact decide_eq_true (by omega)⟩
  simp only [if_true, bJ, List.getElem?_eq_getElem hj]; rw [h3]; rw [if_pos ⟨by omega, he.1, hw⟩]; exact Ev.now _
 | false =>
  simp only [if_neg (show ¬ (false = true) by decide), bJ]; rw [h4 rfl, if_pos ⟨by omega, by omega, by omega⟩]; exact Ev.now _
theorem e7 (id : Int) (name : ByteArray) : ∀ (ts : List ByteArray) (x : Int) (L : List S76) (c : Nat), fU c L → c + ts.length ≤ 1000000 →
  Ev (fun k => cl.ts k id name ts x L) (kk id name ts x L) ∧ fU (c + ts.length) (kk id name ts x L)
 | [], x, L, c, h, hc => ⟨gw (fun k => rfl), by simpa [kk] using h⟩
 | t :: ts, x, L, c, h, hc => by
  rw [List.length_cons] at hc; rw [kk]; by_cases ht : t.size = 0
  ·rw [if_pos ht]; have ih := e7 id name ts (x + 1) L (c + 1) (iy h (by omega)) (by omega); refine ⟨?_, by have := ih.2; rw [List.length_cons]; rw [show c + 1 + ts.length = c + (ts.length + 1) by omega] at this; exact this⟩; simp only [cl.ts, if_pos ht]; exact ih.1
  ·rw [if_neg ht]; have ih := e7 id name ts (x + 1) (el (name, t) id x L) (c + 1) (o4 h _ _ _) (by omega); refine ⟨?_, by have := ih.2; rw [List.length_cons]; rw [show c + 1 + ts.length = c + (ts.length + 1) by omega] at this; exact this⟩; simp only [cl.ts, if_neg ht]; exact Ev.bind (kP L (name, t) id x (iy h (by omega))) ih.1
theorem rn (w : ByteArray) : (noS w).size ≤ w.size := by
 unfold noS
 split
 ·rw [extract_size w _ (by omega)]; omega
 ·exact Nat.le_refl _
theorem nV (w : ByteArray) : (fj w).size ≤ w.size := by
 unfold fj
 split
 ·exact Nat.zero_le _
 ·exact Nat.le_refl _
theorem oJ (s : ByteArray) : (gu s).size ≤ 12 := by
 have h1 := nV (noS (gJ (eH s))); have h2 := rn (gJ (eH s)); have h3 := kJ (eH s); unfold gu; omega
theorem ne (s : ByteArray) : ((fE s).all fun t => decide (t.size ≤ 1000000)) = true := by
 rw [List.all_eq_true]; intro t ht; obtain ⟨w, _, rfl⟩ := List.mem_map.1 ht; have := oJ w.f0; exact decide_eq_true (by omega)
set_option maxRecDepth 20000 in
theorem jg (F : List S92) (hF : F.length ≤ 1048576) (id : Int) : ∀ (cs : List S86) (G : List ((ByteArray × ByteArray) × List S50)) (n : Nat), (G.map (·.1)).Nodup → fU n (ee (G.map toE)) → (∀ x ∈ cs, x.f0.size ≤ 1000000 ∧ x.f1.size ≤ 1000) → n + cs.length * 1000 ≤ 1000000 →
  ∃ (G' : List ((ByteArray × ByteArray) × List S50)) (n' : Nat), Ev (fun k => entriesW.cs k F id cs (G, n)) (G', n') ∧ Ev (fun k => cl.cs k F id cs (ee (G.map toE))) (ee (G'.map toE)) ∧ (G'.map (·.1)).Nodup ∧ fU n' (ee (G'.map toE)) ∧ n' ≤ n + cs.length * 1000
 | [], G, n, hn, hg, _, _ => ⟨G, n, gw (fun k => rfl), gw (fun k => rfl), hn, hg, by omega⟩
 | c :: cs, G, n, hn, hg, hs, hc => by
  rw [List.length_cons] at hc; have hsc := hs c (by simp); have hst := fun x hx => hs x (List.mem_cons_of_mem _ hx)
  simp only [entriesW.cs, cl.cs]; have hf := gq c.f0 F (by omega); have hk := j7 F hF c.f0; by_cases h1 : eB F c.f0 = 1
  ·have hlen : (fE c.f1).length ≤ 1000 := by rw [lX]; have := fx c.f1; omega
   obtain ⟨hw1, hw2⟩ := e7 id c.f0 (fE c.f1) 0 (ee (G.map toE)) n hg (by omega); obtain ⟨hf1, hf2⟩ := io id c.f0 (fE c.f1) 0 G hn; rw [hf1] at hw1 hw2; obtain ⟨G', n', e1, e2, e3, e4, e5⟩ := jg F hF id cs (fO id c.f0 (fE c.f1) 0 G) (n + (fE c.f1).length) hf2 hw2 hst (by omega); refine ⟨G', n', ?_, ?_, e3, e4, by rw [List.length_cons]; omega⟩
   ·refine Ev.bind hf ?_; have h1' : (er c.f0 F).2.1 = 1 := h1; simp only [if_pos h1']; refine Ev.bind (lT c.f1 (by omega)) ?_; have hcond : n + (fE c.f1).length ≤ 1000000 ∧ c.f0.size ≤ 1000000 ∧ ((fE c.f1).all fun t => decide (t.size ≤ 1000000)) = true := ⟨by omega, by omega, ne _⟩; simp only [if_pos hcond]; exact e1
   ·refine Ev.bind hk ?_; simp only [h1, beq_self_eq_true, if_true]; refine Ev.bind (lI c.f1 (by omega)) ?_; exact Ev.bind hw1 e2
  ·obtain ⟨G', n', e1, e2, e3, e4, e5⟩ := jg F hF id cs G n hn hg hst (by omega); refine ⟨G', n', ?_, ?_, e3, e4, by rw [List.length_cons]; omega⟩
   ·refine Ev.bind hf ?_; have h1' : ¬ (er c.f0 F).2.1 = 1 := h1; simp only [if_neg h1']; exact e1
   ·refine Ev.bind hk ?_; rw [beq_eq_false_iff_ne.2 h1]; simp only [if_neg (show ¬ (false = true) by decide)]; exact e2
set_option maxRecDepth 20000 in
theorem mo (F : List S92) (hF : F.length ≤ 1048576) : ∀ (rs : List S46) (G : List ((ByteArray × ByteArray) × List S50)) (n : Nat), (G.map (·.1)).Nodup → fU n (ee (G.map toE)) → (∀ r ∈ rs, r.f1.f1.length ≤ 4 ∧ ∀ x ∈ r.f1.f1, x.f0.size ≤ 1000000 ∧ x.f1.size ≤ 1000) → n + rs.length * 4000 ≤ 1000000 →
  ∃ (G' : List ((ByteArray × ByteArray) × List S50)) (n' : Nat), Ev (fun k => entriesW.rs k F rs (G, n)) (G', n') ∧ Ev (fun k => bZ.rs k F rs (ee (G.map toE))) (ee (G'.map toE)) ∧ fU n' (ee (G'.map toE)) ∧ n' ≤ n + rs.length * 4000
 | [], G, n, hn, hg, _, _ => ⟨G, n, gw (fun k => rfl), gw (fun k => rfl), hg, by omega⟩
 | r :: rs, G, n, hn, hg, hs, hc => by
  rw [List.length_cons] at hc; have hsr := hs r (by simp); obtain ⟨G1, n1, e1, e2, e3, e4, e5⟩ := jg F hF r.f0 r.f1.f1 G n hn hg hsr.2 (by omega); obtain ⟨G2, n2, d1, d2, d4, d5⟩ := mo F hF rs G1 n1 e3 e4 (fun x hx => hs x (List.mem_cons_of_mem _ hx)) (by omega); refine ⟨G2, n2, ?_, ?_, d4, by rw [List.length_cons]; omega⟩
  ·simp only [entriesW.rs]; exact Ev.bind e1 d1
  ·simp only [bZ.rs]; exact Ev.bind e2 d2
theorem ly (F : List S92) (hF : F.length ≤ 1048576) (rs : List S46) (hs : ∀ r ∈ rs, r.f1.f1.length ≤ 4 ∧ ∀ x ∈ r.f1.f1, x.f0.size ≤ 1000000 ∧ x.f1.size ≤ 1000) (hc : rs.length ≤ 8) :
  ∃ L : List S76, Ev (fun k => eq.f k F rs) L ∧ Ev (fun k => bZ.f k F rs) L ∧ fU 32000 L := by
 have hg : fU 0 (ee (([] : List ((ByteArray × ByteArray) × List S50)).map toE)) := ⟨Nat.le_refl _, fun e he => by cases he⟩; obtain ⟨G, n, e1, e2, e3, e4⟩ := mo F hF rs [] 0 List.nodup_nil hg hs (by omega); refine ⟨ee (G.map toE), ?_, ?_, iy e3 (by omega)⟩
 ·simp only [eq.f, entriesW.f]; exact Ev.bind e1 (Ev.now _)
 ·simp only [bZ.f]; exact e2
theorem iK (l : List S46) (j : Nat) (h : j < l.length) : ac l (j : Int) = l[j] := by
 unfold ac; simp [List.getD_eq_getElem?_getD, List.getElem?_eq_getElem h]
def ic (F : List S92) (R : List S46) (E : List S76) (n : Int) : Prop :=
 fe F = true ∧ R.length ≤ 8 ∧ (0 ≤ n ∧ n ≤ 999999999) ∧ Ev (fun k => bZ.f k F R) E
def n3 (F : List S92) (R : List S46) (n : Int) (i : Nat) (h : i < R.length) : Prop :=
 gD F R[i].f1.f0 R[i].f1.f1 = true ∧ d6 R[i].f1.f0 0 R = (i : Int) ∧ (0 ≤ R[i].f0 ∧ R[i].f0 ≤ wrap64 (n - 1)) ∧ ∀ h0 : 0 < i, (R[i - 1]'(by omega)).f0 < R[i].f0
open Classical in
theorem ll {key : ByteArray} {l : List S86} (h : jU key l = true) : (∀ c ∈ l, eQ (ak c.f0) = true ∧ ez c.f1 60 = true) ∧ eQ (ak key) = true ∧ l.length ≤ 4 := by
 unfold jU at h
 have h1 := decide_eq_true_iff.1 h; refine ⟨fun c hc => ?_, h1.2⟩; obtain ⟨i, hi, rfl⟩ := List.mem_iff_getElem.1 hc; have h2 := h1.1 i hi (Nat.zero_le _); exact ⟨h2.1, h2.2.1⟩
open Classical in
theorem oQ {s : ByteArray} {m : Int} (h : ez s m = true) : (s.size : Int) ≤ m := by
 unfold ez at h
 exact (decide_eq_true_iff.1 h).2
def dm (F : List S92) (R : List S46) (n : Int) (i : Nat) : Prop := ∀ (j : Nat) (h : j < R.length), i ≤ j → n3 F R n j h
open Classical in
theorem mf {F : List S92} {R : List S46} {n : Int} (h : dm F R n 0) : ∀ r ∈ R, r.f1.f1.length ≤ 4 ∧ ∀ x ∈ r.f1.f1, x.f0.size ≤ 1000000 ∧ x.f1.size ≤ 1000 := by
 intro r hr; obtain ⟨i, hi, rfl⟩ := List.mem_iff_getElem.1 hr; have h1 := (h i hi (Nat.zero_le _)).1; have hp : jn F R[i].f1.f0 R[i].f1.f1 := by unfold gD at h1; exact of_decide_eq_true h1
 have hf := ll hp.2.1; refine ⟨hf.2.2, fun x hx => ?_⟩; have h2 := hf.1 x hx; have h3 := oQ h2.2; have h4 := (fX.1 h2.1).2.2; rw [bR] at h4; exact ⟨by omega, by omega⟩
theorem dS {F : List S92} {R : List S46} {n : Int} {i : Nat} (h : i < R.length) : dm F R n i ↔ n3 F R n i h ∧ dm F R n (i + 1) := by
 constructor
 ·intro h2; exact ⟨h2 i h (Nat.le_refl _), fun j hj hij => h2 j hj (by omega)⟩
 ·rintro ⟨h1, h2⟩ j hj hij; rcases Nat.lt_or_ge i j with hlt | hge
  ·exact h2 j hj hlt
  ·obtain rfl : i = j := by omega
   exact h1
theorem kL {p q : S76} : p = q ↔ p.f0 = q.f0 ∧ p.f1 = q.f1 ∧ p.f2 = q.f2 := by
 constructor
 ·intro h; rw [h]; exact ⟨rfl, rfl, rfl⟩
 ·obtain ⟨a, b, e⟩ := p; obtain ⟨c, d, f⟩ := q; rintro ⟨h1, h2, h3⟩; have h1' : a = c := h1; have h2' : b = d := h2; have h3' : e = f := h3; rw [h1', h2', h3']
open Classical in
theorem qv (a b : List Int) (ha : a.length ≤ 1099511627776) : Ev (fun k => aG.f k a b) (decide (a = b)) := by
 simp only [aG.f]; by_cases hl : a.length = b.length
 ·simp only [if_pos (show (a.length : Int) = (b.length : Int) by omega)]; have main : ∀ (d i : Nat), i + d = a.length → Ev (fun k => aG.l0 k a b (a.length : Int) (i : Int)) (decide (a.drop i = b.drop i)) := by
   intro d; induction d with
   | zero =>
    intro i hi; refine Ev.step (fun k => aG.l0.eq_2 _ _ _ _ _) ?_; simp only [if_neg (show ¬ ((i : Int) < (a.length : Int)) by omega)]; rw [List.drop_eq_nil_of_le (by omega), List.drop_eq_nil_of_le (by omega)]; exact eF rfl (Ev.now _)
   | succ d ih =>
    intro i hi; have hia : i < a.length := by omega
    have hib : i < b.length := by omega
    refine Ev.step (fun k => aG.l0.eq_2 _ _ _ _ _) ?_; simp only [if_pos (show ((i : Int) < (a.length : Int)) by omega), if_pos (show (0 : Int) ≤ (i : Int) by omega), if_pos (show ((i : Int) < (b.length : Int)) by omega), je a i hia, je b i hib, bY i (by omega)]; by_cases h : a[i] = b[i]
    ·simp only [if_pos h]; exact cU ⟨fun h2 => (b6 hia hib).2 ⟨h, h2⟩, fun h2 => ((b6 hia hib).1 h2).2⟩ (ih (i + 1) (by omega))
    ·simp only [if_neg h]; exact bg (fun h2 => h ((b6 hia hib).1 h2).1) (Ev.now _)
  have := main a.length 0 (by omega); simpa using this
 ·simp only [if_neg (show ¬ (a.length : Int) = (b.length : Int) by omega)]; exact bg (fun h => hl (by rw [h])) (Ev.now _)
theorem mN {p q : S50} : p = q ↔ p.f0 = q.f0 ∧ p.f1 = q.f1 := by
 constructor
 ·intro h; rw [h]; exact ⟨rfl, rfl⟩
 ·obtain ⟨a, b⟩ := p; obtain ⟨c, d⟩ := q; rintro ⟨h1, h2⟩; have h1' : a = c := h1; have h2' : b = d := h2; rw [h1', h2']
open Classical in
theorem jm (p q : S50) (hp : p.f1.length ≤ 1099511627776) : Ev (fun k => dq.f k p.f0 p.f1 q.f0 q.f1) (decide (p = q)) := by
 simp only [dq.f]; by_cases h0 : p.f0 = q.f0
 ·simp only [if_pos h0]; refine Ev.bind (qv p.f1 q.f1 hp) ?_; exact cU ⟨fun h => mN.2 ⟨h0, h⟩, fun h => (mN.1 h).2⟩ (Ev.now (decide (p.f1 = q.f1)))
 ·simp only [if_neg h0]; exact bg (fun h => h0 (by rw [h])) (Ev.now _)
theorem nu (l : List S50) (j : Nat) (h : j < l.length) : bb l (j : Int) = l[j] := by
 unfold bb; simp [List.getD_eq_getElem?_getD, List.getElem?_eq_getElem h]
open Classical in
theorem mL (a b : List S50) (ha : a.length ≤ 1099511627776) (hs : ∀ p ∈ a, p.f1.length ≤ 1099511627776) : Ev (fun k => de.f k a b) (decide (a = b)) := by
 simp only [de.f]; by_cases hl : a.length = b.length
 ·simp only [if_pos (show (a.length : Int) = (b.length : Int) by omega)]; have main : ∀ (d i : Nat), i + d = a.length → Ev (fun k => de.l0 k b a (a.length : Int) (i : Int)) (decide (a.drop i = b.drop i)) := by
   intro d; induction d with
   | zero =>
    intro i hi; refine Ev.step (fun k => de.l0.eq_2 _ _ _ _ _) ?_; simp only [if_neg (show ¬ ((i : Int) < (a.length : Int)) by omega)]; rw [List.drop_eq_nil_of_le (by omega), List.drop_eq_nil_of_le (by omega)]; exact eF rfl (Ev.now _)
   | succ d ih =>
    intro i hi; have hia : i < a.length := by omega
    have hib : i < b.length := by omega
    refine Ev.step (fun k => de.l0.eq_2 _ _ _ _ _) ?_; simp only [if_pos (show ((i : Int) < (a.length : Int)) by omega), if_pos (show (0 : Int) ≤ (i : Int) by omega), if_pos (show ((i : Int) < (b.length : Int)) by omega), nu a i hia, nu b i hib, bY i (by omega)]; refine Ev.bind (jm a[i] b[i] (hs _ (List.getElem_mem hia))) ?_; by_cases h : a[i] = b[i]
    ·rw [decide_eq_true h]; simp only [if_true]; exact cU ⟨fun h2 => (b6 hia hib).2 ⟨h, h2⟩, fun h2 => ((b6 hia hib).1 h2).2⟩ (ih (i + 1) (by omega))
    ·rw [decide_eq_false h]; simp only [if_neg (show ¬ (false = true) by decide)]; exact bg (fun h2 => h ((b6 hia hib).1 h2).1) (Ev.now _)
  have := main a.length 0 (by omega); simpa using this
 ·simp only [if_neg (show ¬ (a.length : Int) = (b.length : Int) by omega)]; exact bg (fun h => hl (by rw [h])) (Ev.now _)
open Classical in
theorem iL (p q : S76) (hp : p.f2.length ≤ 1099511627776) (hs : ∀ x ∈ p.f2, x.f1.length ≤ 1099511627776) : Ev (fun k => dj.f k p.f0 p.f1 p.f2 q.f0 q.f1 q.f2) (decide (p = q)) := by
 simp only [dj.f, toList_inj]; by_cases h0 : p.f0 = q.f0
 ·simp only [if_pos h0]; by_cases h1 : p.f1 = q.f1
  ·simp only [if_pos h1]; refine Ev.bind (mL p.f2 q.f2 hp hs) ?_; exact cU ⟨fun h => kL.2 ⟨h0, h1, h⟩, fun h => (kL.1 h).2.2⟩ (Ev.now (decide (p.f2 = q.f2)))
  ·simp only [if_neg h1]; exact bg (fun h => h1 (by rw [h])) (Ev.now _)
 ·simp only [if_neg h0]; exact bg (fun h => h0 (by rw [h])) (Ev.now _)
open Classical in
theorem lM (a b : List S76) (ha : a.length ≤ 1099511627776) (hs : ∀ e ∈ a, e.f2.length ≤ 1099511627776 ∧ ∀ p ∈ e.f2, p.f1.length ≤ 1099511627776) : Ev (fun k => cF.f k a b) (decide (a = b)) := by
 simp only [cF.f]; by_cases hl : a.length = b.length
 ·simp only [if_pos (show (a.length : Int) = (b.length : Int) by omega)]; have main : ∀ (d i : Nat), i + d = a.length → Ev (fun k => cF.l0 k b a (a.length : Int) (i : Int)) (decide (a.drop i = b.drop i)) := by
   intro d; induction d with
   | zero =>
    intro i hi; refine Ev.step (fun k => cF.l0.eq_2 _ _ _ _ _) ?_; simp only [if_neg (show ¬ ((i : Int) < (a.length : Int)) by omega)]; rw [List.drop_eq_nil_of_le (by omega), List.drop_eq_nil_of_le (by omega)]; exact eF rfl (Ev.now _)
   | succ d ih =>
    intro i hi; have hia : i < a.length := by omega
    have hib : i < b.length := by omega
    have hx := hs _ (List.getElem_mem hia); refine Ev.step (fun k => cF.l0.eq_2 _ _ _ _ _) ?_; simp only [if_pos (show ((i : Int) < (a.length : Int)) by omega), if_pos (show (0 : Int) ≤ (i : Int) by omega), if_pos (show ((i : Int) < (b.length : Int)) by omega), fW a i hia, fW b i hib, bY i (by omega)]; refine Ev.bind (iL a[i] b[i] hx.1 hx.2) ?_; by_cases h : a[i] = b[i]
    ·rw [decide_eq_true h]; simp only [if_true]; exact cU ⟨fun h2 => (b6 hia hib).2 ⟨h, h2⟩, fun h2 => ((b6 hia hib).1 h2).2⟩ (ih (i + 1) (by omega))
    ·rw [decide_eq_false h]; simp only [if_neg (show ¬ (false = true) by decide)]; exact bg (fun h2 => h ((b6 hia hib).1 h2).1) (Ev.now _)
  have := main a.length 0 (by omega); simpa using this
 ·simp only [if_neg (show ¬ (a.length : Int) = (b.length : Int) by omega)]; exact bg (fun h => hl (by rw [h])) (Ev.now _)
open Classical in
theorem jX {F : List S92} {R : List S46} {E : List S76} (hz : fN F R E) (n : Int) (hf : fe F = true) (h8 : R.length ≤ 8) (hn : 0 ≤ n ∧ n ≤ 999999999) : ∀ (d i : Nat), i + d = R.length → (∀ (j : Nat) (h : j < R.length), j < i → n3 F R n j h) → Ev (fun k => ai.l0 k R (R.length : Int) (i : Int) F R E n) (decide (dm F R n i ∧ ic F R E n)) := by
 have hr := hz.r; intro d; induction d with
 | zero =>
  intro i hi hprev; have hall : dm F R n 0 := fun j hj _ => hprev j hj (by omega)
  have hend : dm F R n i := fun j hj hij => by omega
  refine Ev.step (fun k => ai.l0.eq_2 _ _ _ _ _ _ _ _) ?_; simp only [if_neg (show ¬ ((i : Int) < (R.length : Int)) by omega)]; obtain ⟨L, h1, h2, h3⟩ := ly F hz.f R (mf hall) h8; refine Ev.bind h1 ?_; refine Ev.bind (lM E L (by have := hz.e; omega) (fun e he => ⟨by have := (hz.es e he).1; omega, fun p hp => by have := (hz.es e he).2 p hp; omega⟩)) ?_; exact cU ⟨fun h => ⟨hend, hf, h8, hn, by rw [h]; exact h2⟩, fun h => mc h.2.2.2.2 h2⟩ (Ev.now (decide (E = L)))
 | succ d ih =>
  intro i hi hprev; have hil : i < R.length := by omega
  have hs := hz.rs _ (List.getElem_mem hil); have next : n3 F R n i hil → Ev (fun k => ai.l0 k R (R.length : Int) ((i + 1 : Nat) : Int) F R E n) (decide (dm F R n i ∧ ic F R E n)) := fun hp =>
   cU ⟨fun h => ⟨(dS hil).2 ⟨hp, h.1⟩, h.2⟩, fun h => ⟨((dS hil).1 h.1).2, h.2⟩⟩ (ih (i + 1) (by omega) (fun j hj hji => by
    rcases Nat.lt_or_ge j i with hlt | hge
    ·exact hprev j hj hlt
    ·obtain rfl : j = i := by omega
     exact hp))
  have stop : ¬ n3 F R n i hil → Ev (fun _ : Nat => some false) (decide (dm F R n i ∧ ic F R E n)) := fun hp => bg (fun h => hp ((dS hil).1 h.1).1) (Ev.now _)
  have doc : (0 ≤ R[i].f0 ∧ R[i].f0 ≤ wrap64 (n - 1)) → (∀ h0 : 0 < i, (R[i - 1]'(by omega)).f0 < R[i].f0) → Ev (fun k => (aN.f k F R[i].f1.f0 R[i].f1.f1).bind fun t => if t = true then (da.f F R E n R[i].f1.f0).bind fun t2 => if t2 = (i : Int) then ai.l0 k R (R.length : Int) ((i + 1 : Nat) : Int) F R E n else some false else some false) (decide (dm F R n i ∧ ic F R E n)) := by
   intro hin ho; refine Ev.bind (lB F hz.f hz.fs R[i].f1.f0 R[i].f1.f1 hs.1 hs.2.1 hs.2.2) ?_; cases hd : gD F R[i].f1.f0 R[i].f1.f1 with
   | false => simp only [if_neg (show ¬ (false = true) by decide)]; exact stop (fun h => by have := h.1; rw [hd] at this; cases this)
   | true =>
    simp only [if_true, da.f, Option.bind_some]; by_cases hk : d6 R[i].f1.f0 0 R = (i : Int)
    ·simp only [if_pos hk]; exact next ⟨hd, hk, hin, ho⟩
    ·simp only [if_neg hk]; exact stop (fun h => hk h.2.1)
  refine Ev.step (fun k => ai.l0.eq_2 _ _ _ _ _ _ _ _) ?_; simp only [if_pos (show ((i : Int) < (R.length : Int)) by omega), if_pos (show (0 : Int) ≤ (i : Int) by omega), iK R i hil, bY i (by omega), dt, Option.bind_some]; by_cases hin : 0 ≤ R[i].f0 ∧ R[i].f0 ≤ wrap64 (n - 1)
  ·simp only [decide_eq_true hin, if_true]; by_cases h0 : 0 < i
   ·obtain ⟨m, rfl⟩ : ∃ m, i = m + 1 := ⟨i - 1, by omega⟩; simp only [if_pos (show ((m + 1 : Nat) : Int) > 0 by omega), wpred m (by omega), if_pos (show (0 : Int) ≤ (m : Int) by omega), if_pos (show ((m : Int) < (R.length : Int)) by omega), iK R m (by omega)]; by_cases ho : R[m].f0 ≥ R[m + 1].f0
    ·simp only [if_pos ho]; exact stop (fun h => by have h2 : R[m].f0 < R[m + 1].f0 := h.2.2.2 h0; omega)
    ·simp only [if_neg ho]; exact doc hin (fun _ => by show R[m].f0 < R[m + 1].f0; omega)
   ·simp only [if_neg (show ¬ ((i : Int) > 0) by omega)]; exact doc hin (fun h => absurd h h0)
  ·simp only [decide_eq_false hin, if_neg (show ¬ (false = true) by decide)]; exact stop (fun h => hin h.2.2.1)
open Classical in
noncomputable def iw (F : List S92) (R : List S46) (E : List S76) (n : Int) : Bool := decide (dm F R n 0 ∧ ic F R E n)
open Classical in
theorem jY {F : List S92} {R : List S46} {E : List S76} (hz : fN F R E) (n : Int) : Ev (fun k => ai.f k F R E n) (iw F R E n) := by
 have hr := hz.r; simp only [ai.f, iw]; have stop : ¬ ic F R E n → Ev (fun k => ai.j0 k true F R E n) (decide (dm F R n 0 ∧ ic F R E n)) := by
  intro h; refine Ev.step (fun k => ai.j0.eq_2 _ _ _ _ _ _) ?_; simp only [if_true]; exact bg (fun h2 => h h2.2) (Ev.now _)
 refine Ev.bind (fY F (by have := hz.f; omega) hz.fs) ?_; cases hf : fe F with
 | false => simp only [if_neg (show ¬ (false = true) by decide)]; exact stop (fun h => by have := h.1; rw [hf] at this; cases this)
 | true =>
  simp only [if_true]; by_cases h8 : R.length ≤ 8
  ·simp only [if_neg (show ¬ ((R.length : Int) > 8) by omega), dt, Option.bind_some]; by_cases hn : 0 ≤ n ∧ n ≤ 999999999
   ·simp only [decide_eq_true hn, Bool.not_true]; refine Ev.step (fun k => ai.j0.eq_2 _ _ _ _ _ _) ?_; simp only [if_neg (show ¬ (false = true) by decide)]; exact jX hz n hf h8 hn R.length 0 (by omega) (fun j hj h => by omega)
   ·simp only [decide_eq_false hn, Bool.not_false]; exact stop (fun h => hn h.2.2.1)
  ·simp only [if_pos (show ((R.length : Int) > 8) by omega)]; exact stop (fun h => h8 h.2.1)
def gh (s p : ByteArray) : Bool := if (s.size : Int) ≥ (p.size : Int) then ((s.extract 0 ((p.size : Int) : Int).toNat).toList == p.toList) else false
theorem nx (s p : ByteArray) : cK.f s p = some (gh s p) := by
 unfold cK.f stringslite_HasPrefix.f gh
 split
 ·rw [if_pos (by omega)]; rfl
 ·rfl
def f3 (f p : ByteArray) : List S76 → List ByteArray
 | [] => []
 | e :: l => if e.f0.toList = f.toList then (if gh e.f1 p = true then e.f1 :: f3 f p l else f3 f p l) else f3 f p l
theorem ir (E : List S76) (f p : ByteArray) (hE : E.length ≤ 1099511627776) : ∀ (d i : Nat) (acc : List ByteArray), i + d = E.length → acc.length ≤ i → Ev (fun k => aT.l0 k f p acc E (E.length : Int) (i : Int)) (acc ++ f3 f p (E.drop i)) := by
 intro d; induction d with
 | zero =>
  intro i acc hi ha; refine Ev.step (fun k => aT.l0.eq_2 _ _ _ _ _ _ _) ?_; simp only [if_neg (show ¬ ((i : Int) < (E.length : Int)) by omega)]; rw [List.drop_of_length_le (by omega), f3, List.append_nil]; exact Ev.now _
 | succ d ih =>
  intro i acc hi ha; have hl : i < E.length := by omega
  refine Ev.step (fun k => aT.l0.eq_2 _ _ _ _ _ _ _) ?_; rw [List.drop_eq_getElem_cons hl, f3]; simp only [if_pos (show ((i : Int) < (E.length : Int)) by omega), if_pos (show 0 ≤ (i : Int) by omega), fW E i hl, nx, Option.bind_some, bY i (by omega)]; by_cases h1 : E[i].f0.toList = f.toList
  ·simp only [if_pos h1]; by_cases h2 : gh E[i].f1 p = true
   ·simp only [if_pos h2, if_pos (show acc.length < 8796093022208 by omega)]; have := ih (i + 1) (acc ++ [E[i].f1]) (by omega) (by simp; omega); rwa [List.append_assoc] at this
   ·simp only [if_neg h2]; exact ih (i + 1) acc (by omega) (by omega)
  ·simp only [if_neg h1]; exact ih (i + 1) acc (by omega) (by omega)
noncomputable def gg (F : List S92) (R : List S46) (E : List S76) (n : Int) (f p : ByteArray) : List ByteArray := if iw F R E n = true then f3 f p E else []
theorem ik {F : List S92} {R : List S46} {E : List S76} (hz : fN F R E) (n : Int) (f p : ByteArray) : Ev (fun k => aT.f k F R E n f p) (gg F R E n f p) := by
 have he := hz.e; simp only [aT.f, Option.bind_some]; refine Ev.bind (jY hz n) ?_; unfold gg
 by_cases hb : iw F R E n = true
 ·simp only [if_pos hb]; exact ir E f p (by omega) E.length 0 [] (by omega) (by simp)
 ·simp only [if_neg hb]; exact Ev.now _
theorem dR (a b c : Int) : b7.f a b c = some (decide (b ≤ a ∧ a ≤ c)) := by
 unfold b7.f
 by_cases h : a ≥ b
 ·rw [if_pos h]; congr 1; exact decide_eq_decide.2 ⟨fun h2 => ⟨h, h2⟩, fun h2 => h2.2⟩
 ·rw [if_neg h]; congr 1; symm; exact decide_eq_false (fun h2 => h h2.1)
open Classical in
theorem lr (s : ByteArray) (hn : s.size < 4611686018427387904) : ∀ (d i : Nat), i + d = s.size → Ev (fun k => aE.l0 k s (i : Int)) (decide (dz (ak s) i)) := by
 have hb := bR s; intro d; induction d with
 | zero =>
  intro i hi; refine Ev.step (fun k => aE.l0.eq_2 _ _ _) ?_; simp only [if_neg (show ¬ ((i : Int) < (s.size : Int)) by omega), dR, Option.bind_some]; refine cL (iM (by omega)).symm ?_; refine gw fun _ => ?_
  congr 1; exact decide_eq_decide.2 (by omega)
 | succ d ih =>
  intro i hi; have hs := hJ (l := ak s) (j := i) (by omega); refine Ev.step (fun k => aE.l0.eq_2 _ _ _) ?_; simp only [if_pos (show ((i : Int) < (s.size : Int)) by omega), if_pos (show 0 ≤ (i : Int) by omega), bY i (by omega), gI s i (by omega)]; by_cases h1 : kG (ak s)[i]
  ·simp only [if_pos (show (ak s)[i] ≥ 97 from h1.1), if_pos h1.2]; exact cL (hs.trans ⟨fun h => h.2, fun h => ⟨.inl h1, h⟩⟩).symm (ih (i + 1) (by omega))
  ·have key : Ev (fun k => if (i : Int) = 0 then some false else if (ak s)[i] < 48 then some false else if (ak s)[i] > 57 then some false else aE.l0 k s ((i + 1 : Nat) : Int)) (decide (dz (ak s) i)) := by
    by_cases h0 : (i : Int) = 0
    ·simp only [if_pos h0]; have : decide (dz (ak s) i) = false := decide_eq_false (fun h => by rcases (hs.1 h).1 with h2 | h2; exact h1 h2; omega); rw [this]; exact Ev.now _
    ·simp only [if_neg h0]; by_cases h2 : l5 (ak s)[i]
     ·simp only [if_neg (show ¬ (ak s)[i] < 48 by have := h2.1; omega), if_neg (show ¬ (ak s)[i] > 57 by have := h2.2; omega)]; exact cL (hs.trans ⟨fun h => h.2, fun h => ⟨.inr ⟨by omega, h2⟩, h⟩⟩).symm (ih (i + 1) (by omega))
     ·have : decide (dz (ak s) i) = false := decide_eq_false (fun h => by rcases (hs.1 h).1 with h3 | h3; exact h1 h3; exact h2 h3.2); rw [this]; by_cases h3 : (ak s)[i] < 48
      ·simp only [if_pos h3]; exact Ev.now _
      ·simp only [if_neg h3, if_pos (show (ak s)[i] > 57 by unfold l5 at h2; omega)]; exact Ev.now _
   by_cases h3 : (ak s)[i] ≥ 97
   ·simp only [if_pos h3, if_neg (show ¬ (ak s)[i] ≤ 122 by unfold kG at h1; omega)]; exact key
   ·simp only [if_neg h3]; exact key
theorem eW (s : ByteArray) (hn : s.size < 4611686018427387904) : Ev (fun k => aE.f k s) (eQ (ak s)) := lr s hn s.size 0 (by omega)
open Classical in
theorem kB (s : ByteArray) (hs : s.size < 4611686018427387904) : ∀ (d i : Nat), i + d = s.size → Ev (fun k => bh.l0 k s (i : Int)) (decide ((∀ c ∈ (ak s).drop i, rt c) ∧ (s.size : Int) ≤ 60)) := by
 have hlen := bR s; intro d; induction d with
 | zero =>
  intro i hi; refine Ev.step (fun k => bh.l0.eq_2 _ _ _) ?_; simp only [if_neg (show ¬ ((i : Int) < (s.size : Int)) by omega)]; refine cL ?_ (Ev.now _); rw [List.drop_eq_nil_of_le (by omega)]; exact ⟨fun h => ⟨fun c hc => by simp at hc, h⟩, fun h => h.2⟩
 | succ d ih =>
  intro i hi; refine Ev.step (fun k => bh.l0.eq_2 _ _ _) ?_; simp only [if_pos (show ((i : Int) < (s.size : Int)) by omega), if_pos (show 0 ≤ (i : Int) by omega), py s i (by omega), dR, Option.bind_some, decide_eq_true_eq, bY i (by omega)]; have e := List.drop_eq_getElem_cons (l := ak s) (i := i) (by omega); by_cases hw : 32 ≤ (ak s)[i] ∧ (ak s)[i] ≤ 126
  ·simp only [if_pos hw]; refine cL ?_ (ih (i + 1) (by omega)); rw [e]; constructor
   ·rintro ⟨h1, h2⟩; exact ⟨fun c hc => by rcases List.mem_cons.1 hc with h | h; exact h ▸ hw; exact h1 c h, h2⟩
   ·rintro ⟨h1, h2⟩; exact ⟨fun c hc => h1 c (List.mem_cons_of_mem _ hc), h2⟩
  ·simp only [if_neg hw]; refine cm (fun h => hw (h.1 _ ?_)) (Ev.now _); rw [e]; exact List.mem_cons_self ..
theorem gF (s : ByteArray) (hs : s.size < 4611686018427387904) : Ev (fun k => bh.f k s) (ez s 60) := by
 simp only [bh.f, ez]; exact kB s hs s.size 0 (by omega)
open Classical in
theorem k9 (key : ByteArray) (l : List S86) (hk : key.size ≤ 1048576) (hn : l.length ≤ 1048576) (hs : ∀ x ∈ l, x.f0.size ≤ 1048576 ∧ x.f1.size ≤ 1048576) : ∀ (d i : Nat), i + d = l.length →
  Ev (fun k => aI.l0 k (i : Int) key l) (decide (fZ key l i)) := by
 intro d; induction d with
 | zero =>
  intro i hi; refine Ev.step (fun k => aI.l0.eq_2 _ _ _ _) ?_; simp only [if_neg (show ¬ ((i : Int) < (l.length : Int)) by omega)]; refine cL (iO (by omega)).symm ?_; refine Ev.bind (eW key (by omega)) ?_; cases hnm : eQ (ak key) with
  | false => simp only [if_neg (show ¬ (false = true) by decide)]; exact cm (fun h => by cases h.1) (Ev.now _)
  | true =>
   simp only [if_true]; exact cL ⟨fun h => ⟨(by first | trivial | rfl), by omega⟩, fun h => by have := h.2; omega⟩ (Ev.now _)
 | succ d ih =>
  intro i hi; have hst := ij (key := key) (l := l) (j := i) (by omega); have hsz := hs l[i] (List.getElem_mem _); have hnext := ih (i + 1) (by omega); refine Ev.step (fun k => aI.l0.eq_2 _ _ _ _) ?_; simp only [if_pos (show ((i : Int) < (l.length : Int)) by omega), if_pos (show 0 ≤ (i : Int) by omega), fh l i (by omega), bY i (by omega)]; refine Ev.bind (eW l[i].f0 (by omega)) ?_; cases hnm : eQ (ak l[i].f0) with
  | false => simp only [if_neg (show ¬ (false = true) by decide)]; exact cm (fun h => by have := (hst.1 h).1.1; rw [hnm] at this; cases this) (Ev.now _)
  | true =>
   simp only [if_true]; refine Ev.bind (gF l[i].f1 (by omega)) ?_; cases htx : ez l[i].f1 60 with
   | false => simp only [if_neg (show ¬ (false = true) by decide)]; exact cm (fun h => by have := (hst.1 h).1.2.1; rw [htx] at this; cases this) (Ev.now _)
   | true =>
    simp only [if_true]; by_cases h0 : (i : Int) > 0
    ·have he : wrap64 ((i : Int) - 1) = ((i - 1 : Nat) : Int) := by rw [bC (by omega) (by omega)]; omega
     simp only [if_pos h0, he, if_pos (show 0 ≤ ((i - 1 : Nat) : Int) by omega), if_pos (show ((i - 1 : Nat) : Int) < (l.length : Int) by omega), fh l (i - 1) (by omega)]; by_cases hl : pt (l[i - 1]'(by omega)).f0 l[i].f0
     ·have hl2 : Op.bytesLess (l[i - 1]'(by omega)).f0.toList l[i].f0.toList = true := hl; simp only [hl2, if_true]; exact cL (hst.trans ⟨fun h => h.2, fun h => ⟨⟨hnm, htx, fun _ => hl⟩, h⟩⟩).symm hnext
     ·have hl2 : Op.bytesLess (l[i - 1]'(by omega)).f0.toList l[i].f0.toList = false := Bool.eq_false_iff.2 hl; simp only [hl2, if_neg (show ¬ (false = true) by decide)]; exact cm (fun h => hl ((hst.1 h).1.2.2 (by omega))) (Ev.now _)
    ·simp only [if_neg h0]; exact cL (hst.trans ⟨fun h => h.2, fun h => ⟨⟨hnm, htx, fun h1 => by omega⟩, h⟩⟩).symm hnext
theorem kQ (key : ByteArray) (l : List S86) (hk : key.size ≤ 1048576) (hn : l.length ≤ 1048576) (hs : ∀ x ∈ l, x.f0.size ≤ 1048576 ∧ x.f1.size ≤ 1048576) : Ev (fun k => aI.f k key l) (jU key l) := k9 key l hk hn hs l.length 0 (by omega)
def isD (c : UInt8) : Prop := 48 ≤ c.toNat ∧ c.toNat ≤ 57
instance (c : UInt8) : Decidable (isD c) := by unfold isD; infer_instance
def kV (l : List UInt8) : Prop := l ≠ [] ∧ (∀ c ∈ l, isD c) ∧ (1 < l.length → l.head? ≠ some 48)
theorem qy {l : List UInt8} {i : Nat} (h : i < l.length) (hd : ¬ isD l[i]) : ¬ kV l := fun hc => hd (hc.2.1 _ (List.getElem_mem h))
def eG (acc : Nat) (l : List UInt8) : Nat := l.foldl (fun a c => a * 10 + (c.toNat - 48)) acc
theorem gE (a : List UInt8) (acc : Nat) (b : List UInt8) : eG acc (a ++ b) = eG (eG acc a) b := by unfold eG; rw [List.foldl_append]
theorem ey (acc : Nat) (c : UInt8) (r : List UInt8) : eG acc (c :: r) = eG (acc * 10 + (c.toNat - 48)) r := by unfold eG; rw [List.foldl_cons]
theorem fA (acc : Nat) : eG acc [] = acc := rfl
theorem qj {l : List UInt8} {i : Nat} (h : i < l.length) : eG 0 (l.take (i + 1)) = eG 0 (l.take i) * 10 + (l[i].toNat - 48) := by
 rw [List.take_add_one, List.getElem?_eq_getElem h]; show eG 0 (l.take i ++ [l[i]]) = _
 rw [gE, ey, fA]
theorem ph (s : ByteArray) (i : Nat) (h : i < s.data.toList.length) : bt s (i : Int) = ((s.data.toList[i]).toNat : Int) := by
 rw [gI s i (by rw [bR]; exact h)]; unfold ak
 rw [List.getElem_map]
open Classical in
noncomputable def eK (s : ByteArray) : Int := if kV s.data.toList ∧ s.size ≤ 9 then (eG 0 s.data.toList : Int) else -1
theorem mQ : ∀ (l : List UInt8) (acc : Nat), (∀ c ∈ l, isD c) → eG acc l < (acc + 1) * 10 ^ l.length
 | [], acc, _ => by rw [fA]; simp
 | c :: l, acc, h => by
  have hc := h c (by simp); unfold isD at hc
  have h1 := mQ l (acc * 10 + (c.toNat - 48)) (fun x hx => h x (List.mem_cons_of_mem _ hx)); rw [ey, List.length_cons, Nat.pow_succ, Nat.mul_comm (10 ^ l.length) 10, ← Nat.mul_assoc]; refine Nat.lt_of_lt_of_le h1 (Nat.mul_le_mul_right _ (by omega))
theorem mU (s : ByteArray) (hs : s.size ≤ 1099511627776) : ∀ (d i : Nat), i + d = s.size → i ≤ 9 → (∀ c ∈ s.data.toList.take i, isD c) →
  Ev (fun k => bp.l0 k s ((eG 0 (s.data.toList.take i) : Nat) : Int) (i : Int)) (eK s) := by
 have hlen := fq s; intro d; induction d with
 | zero =>
  intro i hi h9 hd; refine Ev.step (fun k => bp.l0.eq_2 _ _ _ _) ?_; have et : s.data.toList.take i = s.data.toList := List.take_of_length_le (by omega); rw [et] at hd ⊢; simp only [if_neg (show ¬ ((i : Int) < (s.size : Int)) by omega)]; by_cases h0 : s.size = 0
  ·have e0 : eK s = -1 := by unfold eK; rw [if_neg (fun hc => hc.1.1 (List.length_eq_zero_iff.1 (by omega)))]
   rw [e0]; simp only [if_pos (show (s.size : Int) = 0 by omega)]; exact Ev.now _
  ·simp only [if_neg (show ¬ (s.size : Int) = 0 by omega)]; have hne : s.data.toList ≠ [] := fun e => h0 (by rw [← hlen, e]; rfl)
   by_cases h1 : (s.size : Int) > 1
   ·have hb := ph s 0 (by omega); have hb0 : bt s 0 = ((s.data.toList[0]'(by omega)).toNat : Int) := hb; simp only [if_pos h1, if_pos (show 0 < (s.size : Int) by omega), hb0]; have hh : s.data.toList.head? = some (s.data.toList[0]'(by omega)) := by
     rw [List.head?_eq_getElem?, List.getElem?_eq_getElem]
    by_cases h48 : ((s.data.toList[0]'(by omega)).toNat : Int) = 48
    ·have e48 : s.data.toList[0]'(by omega) = 48 := UInt8.toNat_inj.1 (show _ = 48 by omega); have e0 : eK s = -1 := by unfold eK; rw [if_neg (fun hc => hc.1.2.2 (by omega) (by rw [hh, e48]))]
     rw [e0]; simp only [if_pos h48]; exact Ev.now _
    ·have e0 : eK s = ((eG 0 s.data.toList : Nat) : Int) := by unfold eK; rw [if_pos ⟨⟨hne, hd, fun _ he => by rw [hh] at he; exact h48 (by rw [Option.some.inj he]; rfl)⟩, by omega⟩]
     rw [e0]; simp only [if_neg h48]; exact Ev.now _
   ·have e0 : eK s = ((eG 0 s.data.toList : Nat) : Int) := by unfold eK; rw [if_pos ⟨⟨hne, hd, fun h => by omega⟩, by omega⟩]
    rw [e0]; simp only [if_neg h1]; exact Ev.now _
 | succ d ih =>
  intro i hi h9 hd; have hil : i < s.data.toList.length := by omega
  have hb := ph s i hil; refine Ev.step (fun k => bp.l0.eq_2 _ _ _ _) ?_; simp only [if_pos (show ((i : Int) < (s.size : Int)) by omega), if_pos (show 0 ≤ (i : Int) by omega), hb]; have hno : ∀ (h : ¬ isD s.data.toList[i]), eK s = -1 := fun h => by unfold eK; rw [if_neg (fun hc => qy hil h hc.1)]
  by_cases h1 : ((s.data.toList[i]).toNat : Int) < 48
  ·simp only [if_pos h1]; rw [hno (by unfold isD; omega)]; exact Ev.now _
  ·by_cases h2 : ((s.data.toList[i]).toNat : Int) > 57
   ·simp only [if_neg h1, if_pos h2]; rw [hno (by unfold isD; omega)]; exact Ev.now _
   ·by_cases h3 : (i : Int) ≥ 9
    ·simp only [if_neg h1, if_neg h2, if_pos h3]; have : eK s = -1 := by unfold eK; rw [if_neg (fun hc => by have := hc.2; omega)]
     rw [this]; exact Ev.now _
    ·have hlt := mQ (s.data.toList.take i) 0 hd; have hl1 : (s.data.toList.take i).length = i := by rw [List.length_take]; omega
     rw [hl1] at hlt; have hp : 10 ^ i ≤ 10 ^ 9 := Nat.pow_le_pow_right (by decide) (by omega); have e9 : (10 : Nat) ^ 9 = 1000000000 := by decide
     have hstep := qj hil; have ew : wrap64 (wrap64 (((eG 0 (s.data.toList.take i) : Nat) : Int) * 10) + ((((s.data.toList[i]).toNat : Int) - 48) % 256)) = ((eG 0 (s.data.toList.take (i + 1)) : Nat) : Int) := by
      rw [hstep, bC (x := ((eG 0 (s.data.toList.take i) : Nat) : Int) * 10) (by omega) (by omega), bC (by omega) (by omega)]; omega
     simp only [if_neg h1, if_neg h2, if_neg h3, ew, bY i (by omega)]; refine ih (i + 1) (by omega) (by omega) (fun c hc => ?_); rw [List.take_add_one, List.getElem?_eq_getElem hil] at hc; rcases List.mem_append.1 hc with h | h
     ·exact hd c h
     ·have : c = s.data.toList[i] := by simpa using h
      rw [this]; unfold isD; omega
theorem fL (s : ByteArray) (hs : s.size ≤ 1099511627776) : Ev (fun k => bp.f k s) (eK s) := by
 have := mU s hs s.size 0 (by omega) (by omega) (fun c hc => by simp at hc); simpa [bp.f, fA] using this
theorem mK {n : Int} (h : 0 ≤ n) : Lib.itoa n = Lib.decDigits n.toNat := by unfold Lib.itoa; rw [if_neg (by omega)]
theorem gT (v : Nat) (h : v < 10) : (UInt8.ofNat (48 + v)).toNat = 48 + v := by rw [UInt8.toNat_ofNat']; exact Nat.mod_eq_of_lt (by omega)
theorem ke (u : Nat) : ∀ c ∈ Lib.decDigits u, isD c := by
 induction u using Nat.strongRecOn with
 | _ u ih =>
  intro c hc; unfold isD
  by_cases h : u < 10
  ·rw [Lib.decDigits, dif_pos h, List.mem_singleton] at hc; rw [hc, gT u h]; omega
  ·rw [Lib.decDigits, dif_neg h] at hc; rcases List.mem_append.1 hc with h1 | h1
   ·exact ih (u / 10) (by omega) c h1
   ·rw [List.mem_singleton] at h1; rw [h1, gT (u % 10) (by omega)]; omega
theorem pM (u : Nat) (t : List UInt8) : Lib.decDigits u ≠ 45 :: t := by
 intro h; have := ke u 45 (by rw [h]; simp); exact absurd this (by decide)
theorem ky : ∀ (k u : Nat), u < 10 ^ (k + 1) → Lib.nDigits u ≤ k + 1
 | 0, u, h => by rw [Lib.nDigits_small (by simpa using h)]; exact Nat.le_refl _
 | k + 1, u, h => by
  by_cases h1 : u < 10
  ·rw [Lib.nDigits_small h1]; omega
  ·rw [Lib.nDigits_big h1]; have := ky k (u / 10) (by rw [Nat.pow_succ] at h; omega); omega
theorem jE (u : Nat) : Lib.decDigits u ≠ [] := by
 intro h; have h1 := Lib.decDigits_length u; have h2 := Lib.nDigits_pos u; rw [h] at h1; simp at h1; omega
theorem ry (u : Nat) : 1 ≤ u → ∀ c r, Lib.decDigits u = c :: r → 49 ≤ c.toNat := by
 induction u using Nat.strongRecOn with
 | _ u ih =>
  intro hu c r he; by_cases h : u < 10
  ·rw [Lib.decDigits, dif_pos h] at he; have := (List.cons.inj he).1; rw [← this, gT u h]; omega
  ·rw [Lib.decDigits, dif_neg h] at he; obtain ⟨c', r', e'⟩ : ∃ c' r', Lib.decDigits (u / 10) = c' :: r' := by
    cases hd : Lib.decDigits (u / 10) with
    | nil => exact absurd hd (jE _)
    | cons c' r' => exact ⟨c', r', rfl⟩
   have := ih (u / 10) (by omega) (by omega) c' r' e'; rw [e', List.cons_append] at he; rw [← (List.cons.inj he).1]; exact this
theorem pU (u : Nat) : kV (Lib.decDigits u) := by
 refine ⟨jE u, ke u, fun hl => ?_⟩; intro he; have hu : 1 ≤ u := by
  rcases Nat.lt_or_ge u 1 with h | h
  ·obtain rfl : u = 0 := by omega
   rw [Lib.decDigits, dif_pos (by omega)] at hl; simp at hl
  ·exact h
 cases hd : Lib.decDigits u with
 | nil => exact jE u hd
 | cons c r =>
  have := ry u hu c r hd; rw [hd] at he; simp at he
  rw [he] at this; exact absurd this (by decide)
theorem nf : ∀ (l : List UInt8) (acc : Nat), acc ≤ eG acc l
 | [], _ => Nat.le_refl _
 | c :: l, acc => by
  have := nf l (acc * 10 + (c.toNat - 48)); rw [ey]; omega
theorem kA : ∀ (n : Nat) (l : List UInt8), l.length = n → kV l → Lib.decDigits (eG 0 l) = l
 | 0, l, hn, h => absurd (List.length_eq_zero_iff.1 hn) h.1
 | n + 1, l, hn, h => by
  obtain ⟨a, c, rfl⟩ : ∃ a c, l = a ++ [c] := ⟨l.dropLast, l.getLast h.1, (List.dropLast_concat_getLast h.1).symm⟩; have hc := h.2.1 c (by simp); unfold isD at hc
  have hcc : UInt8.ofNat (48 + (c.toNat - 48)) = c := UInt8.toNat_inj.1 (by rw [gT _ (by omega)]; omega); have ev : eG 0 (a ++ [c]) = eG 0 a * 10 + (c.toNat - 48) := by rw [gE, ey, fA]
  by_cases ha : a = []
  ·subst ha; rw [ev, fA, Nat.zero_mul, Nat.zero_add, Lib.decDigits, dif_pos (by omega), hcc]; rfl
  ·obtain ⟨x, r, rfl⟩ : ∃ x r, a = x :: r := by
    cases a with
    | nil => exact absurd rfl ha
    | cons x r => exact ⟨x, r, rfl⟩
   have hx := h.2.1 x (by simp); unfold isD at hx
   have hx48 : x ≠ 48 := fun e => h.2.2 (by simp) (by simp [e])
   have hx49 : 49 ≤ x.toNat := by
    rcases Nat.lt_or_ge x.toNat 49 with h1 | h1
    ·exact absurd (UInt8.toNat_inj.1 (show x.toNat = (48 : UInt8).toNat by show _ = 48; omega)) hx48
    ·exact h1
   have hge := nf r (0 * 10 + (x.toNat - 48)); have hv : 1 ≤ eG 0 (x :: r) := by rw [ey]; omega
   have hcan : kV (x :: r) := ⟨by simp, fun y hy => h.2.1 y (List.mem_append_left _ hy), fun _ => by simpa using hx48⟩; have ih := kA n (x :: r) (by simp at hn ⊢; omega) hcan; rw [ev, Lib.decDigits, dif_neg (by omega), show (eG 0 (x :: r) * 10 + (c.toNat - 48)) / 10 = eG 0 (x :: r) by omega, show (eG 0 (x :: r) * 10 + (c.toNat - 48)) % 10 = c.toNat - 48 by omega, ih, hcc]
theorem mJ (u : Nat) : eG 0 (Lib.decDigits u) = u := by
 induction u using Nat.strongRecOn with
 | _ u ih =>
  by_cases h : u < 10
  ·rw [Lib.decDigits, dif_pos h, ey, fA, gT u h]; omega
  ·rw [Lib.decDigits, dif_neg h, gE, ih (u / 10) (by omega), ey, fA, gT (u % 10) (by omega)]; omega
theorem k5 {s : ByteArray} {u : Nat} : eK s = (u : Int) ↔ u ≤ 999999999 ∧ Lib.decDigits u = s.data.toList := by
 constructor
 ·intro h; unfold eK at h
  split at h
  ·rename_i hc
   have hu : eG 0 s.data.toList = u := by omega
   have hl := mQ s.data.toList 0 hc.1.2.1; have hp : 10 ^ s.data.toList.length ≤ 10 ^ 9 := Nat.pow_le_pow_right (by decide) hc.2; have e9 : (10 : Nat) ^ 9 = 1000000000 := by decide
   refine ⟨by omega, ?_⟩; rw [← hu]; exact kA _ _ rfl hc.1
  ·omega
 ·rintro ⟨h1, h2⟩; have hs : s.size ≤ 9 := by
   have h3 := ky 8 u (by omega); rw [← Lib.decDigits_length, h2] at h3; exact h3
  have hcan := pU u; rw [h2] at hcan; unfold eK
  rw [if_pos ⟨hcan, hs⟩, ← h2, mJ]
theorem kO (s : ByteArray) : eK s = -1 ∨ ∃ u : Nat, u ≤ 999999999 ∧ eK s = (u : Int) ∧ Lib.decDigits u = s.data.toList := by
 by_cases h : ∃ u : Nat, eK s = (u : Int)
 ·obtain ⟨u, hu⟩ := h; have := k5.1 hu; exact Or.inr ⟨u, this.1, hu, this.2⟩
 ·refine Or.inl ?_; unfold eK
  split
  ·rename_i hc
   exact absurd ⟨_, show eK s = ((eG 0 s.data.toList : Nat) : Int) by unfold eK; rw [if_pos hc]⟩ h
  ·rfl
theorem mO (s : ByteArray) : 0 < eK s ↔ ∃ u : Nat, 1 ≤ u ∧ u ≤ 999999999 ∧ Lib.decDigits u = s.data.toList := by
 constructor
 ·intro h; rcases kO s with h1 | ⟨u, h1, h2, h3⟩
  ·omega
  ·exact ⟨u, by omega, h1, h3⟩
 ·rintro ⟨u, h0, h1, h2⟩; have := k5.2 (show u ≤ 999999999 ∧ Lib.decDigits u = s.data.toList from ⟨h1, h2⟩); omega
theorem mF {n : Int} (h : n < 0) : Lib.itoa n = 45 :: Lib.decDigits n.natAbs := by unfold Lib.itoa; rw [if_pos h]
theorem l8 : ∀ (l : List UInt8) (acc : Nat), (∀ c ∈ l, isD c) → eG acc l < 1844674407370955162 → Lib.parseUint10 acc l = .ok (eG acc l)
 | [], _, _, _ => rfl
 | c :: r, acc, h, hv => by
  have hc := h c (by simp); unfold isD at hc
  rw [ey] at hv; have hg := nf r (acc * 10 + (c.toNat - 48)); rw [Lib.parseUint10, if_pos hc, if_neg (by omega), if_neg (by omega), l8 r _ (fun x hx => h x (List.mem_cons_of_mem _ hx)) hv, ey]
theorem pu (u : Nat) (h : u ≤ 999999999999) : Lib.parseMag (Lib.decDigits u) = .ok u := by
 unfold Lib.parseMag
 rw [if_neg (jE u), l8 _ 0 (ke u) (by rw [mJ]; omega), mJ]
theorem rJ (u : Nat) (h : u ≤ 999999999999) : Lib.atoiAll (Lib.decDigits u) = .ok (u : Int) := by
 obtain ⟨c, r, e⟩ : ∃ c r, Lib.decDigits u = c :: r := by
  cases hd : Lib.decDigits u with
  | nil => exact absurd hd (jE _)
  | cons c r => exact ⟨c, r, rfl⟩
 have hc := ke u c (by rw [e]; simp); unfold isD at hc
 have hm := pu u h; rw [e] at hm ⊢; rw [Lib.atoiAll_plain c r (by omega) (by omega), hm]; simp only [Lib.signless, if_neg (show ¬ 9223372036854775808 ≤ u by omega)]
theorem qX (u : Nat) (h : u ≤ 999999999999) : Lib.atoiAll (45 :: Lib.decDigits u) = .ok (-(u : Int)) := by
 rw [Lib.atoiAll_minus, pu u h]; simp only [Lib.signed, if_neg (show ¬ 9223372036854775808 < u by omega)]
theorem qH (n : Int) (h0 : -999999999999 ≤ n) (h1 : n ≤ 999999999999) : Lib.atoiAll (Lib.itoa n) = .ok n := by
 unfold Lib.itoa
 by_cases h : n < 0
 ·rw [if_pos h, qX _ (by omega)]; congr 1; omega
 ·rw [if_neg h, rJ _ (by omega)]; congr 1; omega
theorem nD {s : ByteArray} {n : Int} : iv s = (n, true) ↔ -999999999 ≤ n ∧ n ≤ 999999999 ∧ Lib.itoa n = s.data.toList := by
 constructor
 ·intro h; unfold iv at h
  split at h
  ·split at h
   ·rename_i hc; rw [← (Prod.mk.inj h).1]; exact hc
   ·cases (Prod.mk.inj h).2
  ·cases (Prod.mk.inj h).2
 ·rintro ⟨h0, h1, h2⟩; unfold iv
  rw [← h2, qH n (by omega) (by omega)]; simp only [if_pos (show -999999999 ≤ n ∧ n ≤ 999999999 ∧ True from ⟨h0, h1, trivial⟩)]
theorem jN (s : ByteArray) : (iv s).2 = true ↔ ∃ n : Int, -999999999 ≤ n ∧ n ≤ 999999999 ∧ Lib.itoa n = s.data.toList := by
 constructor
 ·intro h; exact ⟨(iv s).1, nD.1 (by rw [← h])⟩
 ·rintro ⟨n, h⟩; rw [nD.2 h]
theorem oY (s r : ByteArray) (h : s.data.toList = 45 :: r.data.toList) : (iv s).2 = true ↔ 0 < eK r := by
 rw [jN, mO]; constructor
 ·rintro ⟨n, h0, h1, h2⟩; rw [h] at h2; by_cases hn : n < 0
  ·rw [mF hn] at h2; exact ⟨n.natAbs, by omega, by omega, (List.cons.inj h2).2⟩
  ·rw [mK (by omega)] at h2; exact absurd h2 (pM _ _)
 ·rintro ⟨u, h0, h1, h2⟩; refine ⟨-(u : Int), by omega, by omega, ?_⟩; rw [mF (by omega), h, ← h2]; congr 2; omega
theorem nH (s : ByteArray) : 0 ≤ eK s ↔ ∃ u : Nat, u ≤ 999999999 ∧ Lib.decDigits u = s.data.toList := by
 constructor
 ·intro h; rcases kO s with h1 | ⟨u, h1, h2, h3⟩
  ·omega
  ·exact ⟨u, h1, h3⟩
 ·rintro ⟨u, h1, h2⟩; have := k5.2 (show u ≤ 999999999 ∧ Lib.decDigits u = s.data.toList from ⟨h1, h2⟩); omega
theorem oV (s : ByteArray) (h : ∀ t, s.data.toList = 45 :: t → t = []) : (iv s).2 = true ↔ 0 ≤ eK s := by
 rw [jN, nH]; constructor
 ·rintro ⟨n, h0, h1, h2⟩; by_cases hn : n < 0
  ·rw [mF hn] at h2; exact absurd (h _ h2.symm) (jE _)
  ·rw [mK (by omega)] at h2; exact ⟨n.toNat, by omega, h2⟩
 ·rintro ⟨u, h1, h2⟩; exact ⟨(u : Int), by omega, by omega, by rw [mK (by omega)]; exact h2⟩
theorem jo (s : ByteArray) (hs : s.size ≤ 1048576) : ∃ v, Ev (fun k => be.f k s) (v, (iv s).2) := by
 have hlen := fq s; simp only [be.f]; have pos : (∀ t, s.data.toList = 45 :: t → t = []) → ∃ v, Ev (fun k => be.j0 k s false) (v, (iv s).2) := by
  intro h; refine ⟨eK s, Ev.step (fun k => be.j0.eq_2 _ _ _) ?_⟩; simp only [if_neg (show ¬ (false = true) by decide)]; refine Ev.bind (fL s (by omega)) ?_; have e : decide (eK s ≥ 0) = (iv s).2 := by
   rw [Bool.eq_iff_iff, decide_eq_true_eq]; exact (oV s h).symm
  rw [e]; exact Ev.now _
 by_cases h1 : (s.size : Int) > 1
 ·have hb : bt s 0 = ((s.data.toList[0]'(by omega)).toNat : Int) := ph s 0 (by omega); simp only [if_pos h1, if_pos (show 0 < (s.size : Int) by omega), hb]; obtain ⟨x, r, hx⟩ : ∃ x r, s.data.toList = x :: r := by
   cases hd : s.data.toList with
   | nil => rw [hd] at hlen; simp at hlen; omega
   | cons x r => exact ⟨x, r, rfl⟩
  have h0 : s.data.toList[0]'(by omega) = x := by simp [hx]
  rw [h0]; by_cases h45 : (x.toNat : Int) = 45
  ·have e45 : ((x.toNat : Int) == 45) = true := by simpa using h45
   have ex : x = 45 := UInt8.toNat_inj.1 (show _ = 45 by omega); subst ex; have hr : (s.extract 1 s.size).data.toList = r := by
    rw [Lib.extract_data, hx, List.drop_succ_cons, List.drop_zero]; apply List.take_of_length_le
    rw [hx, List.length_cons] at hlen; omega
   have hz : (s.extract 1 s.size).size ≤ 1048576 := by rw [ByteArray.size_extract]; omega
   rw [e45]; refine ⟨wrap64 (-eK (s.extract 1 s.size)), Ev.step (fun k => be.j0.eq_2 _ _ _) ?_⟩; simp only [if_true, if_pos (show 1 ≤ (s.size : Int) by omega)]; refine Ev.bind (fL _ (by omega)) ?_; have e : decide (eK (s.extract 1 s.size) > 0) = (iv s).2 := by
    rw [Bool.eq_iff_iff, decide_eq_true_eq]; exact (oY s (s.extract 1 s.size) (by rw [hr, hx])).symm
   rw [e]; exact Ev.now _
  ·have e45 : ((x.toNat : Int) == 45) = false := by simpa using h45
   rw [e45]; exact pos (fun t ht => absurd (show (x.toNat : Int) = 45 by rw [hx] at ht; rw [(List.cons.inj ht).1]; rfl) h45)
 ·simp only [if_neg h1]; exact pos (fun t ht => by
   rw [ht, List.length_cons] at hlen; exact List.length_eq_zero_iff.1 (by omega))
def cutT (c : UInt8) (n : Nat) (s : ByteArray) : List ByteArray := (eC c n [] s.data.toList).map mkT
theorem jf (c : UInt8) : ∀ (l : List UInt8) (n : Nat) (acc : List UInt8), l.count c ≤ n → eC c n acc l = eC c (l.count c) acc l
 | [], n, acc, _ => by simp [eC]
 | x :: xs, n, acc, h => by
  by_cases hx : x = c
  ·subst hx; rw [List.count_cons_self] at h ⊢; obtain ⟨m, rfl⟩ : ∃ m, n = m + 1 := ⟨n - 1, by omega⟩; rw [eC, eC, if_pos rfl, if_pos rfl, jf x xs m [] (by omega)]
  ·have e : (x :: xs).count c = xs.count c := List.count_cons_of_ne (by simpa using hx); rw [e] at h ⊢; have h1 := jf c xs n (acc ++ [x]) h; have e0 : ∀ k, eC c k acc (x :: xs) = eC c k (acc ++ [x]) xs := by
    intro k; have := i6 c [x] k acc xs (by simpa using fun h => hx h.symm); exact this
   rw [e0, e0, h1]
theorem q8 (c : UInt8) (s : ByteArray) : cutT c (s.size + 1) s = ek c s := by
 unfold cutT ek
 have h : s.data.toList.count c ≤ s.data.toList.length := List.count_le_length; rw [fq] at h; rw [jf c _ (s.size + 1) [] (by omega)]
def gv (s : ByteArray) : List ByteArray → List ByteArray
 | [] => [s]
 | x :: xs => if Op.bytesLess x.toList s.toList = true then x :: gv s xs else if x = s then x :: xs else s :: x :: xs
def kj (acc : List ByteArray) (l : List ByteArray) : List ByteArray := l.foldl (fun a s => gv s a) acc
theorem m0 (acc : List ByteArray) (s : ByteArray) (l : List ByteArray) : kj acc (s :: l) = kj (gv s acc) l := rfl
theorem jH (s : ByteArray) : ∀ l : List ByteArray, (gv s l).length ≤ l.length + 1
 | [] => by simp [gv]
 | x :: xs => by
  have := jH s xs; unfold gv
  split
  ·simp only [List.length_cons]; omega
  ·split <;> simp
theorem lD (s : ByteArray) (l : List ByteArray) (hn : l.length ≤ 1099511627776) : ∀ (d i : Nat), i + d = l.length → Ev (fun k => br.l0 k l s (i : Int)) (l.take i ++ gv s (l.drop i)) := by
 intro d; induction d with
 | zero =>
  intro i hi; refine Ev.step (fun k => br.l0.eq_2 _ _ _ _) ?_; have e1 : l.take i = l := List.take_of_length_le (by omega); have e2 : l.drop i = [] := List.drop_eq_nil_of_le (by omega); simp only [if_neg (show ¬ ((i : Int) < (l.length : Int)) by omega), Option.bind_some, if_pos (show 0 ≤ (i : Int) by omega), if_pos (show (i : Int) ≤ (l.length : Int) by omega), bJ, e1, e2, gv, List.nil_append, List.length_nil, Nat.zero_add, if_pos (show l.length < 8796093022208 by omega), List.length_cons, List.length_append, Nat.add_zero, if_pos (show l.length + 1 < 8796093022208 by omega), List.append_nil]; exact Ev.now _
 | succ d ih =>
  intro i hi; have hil : i < l.length := by omega
  have ed : l.drop i = l[i] :: l.drop (i + 1) := cX l i hil; refine Ev.step (fun k => br.l0.eq_2 _ _ _ _) ?_; simp only [if_pos (show ((i : Int) < (l.length : Int)) by omega), if_pos (show 0 ≤ (i : Int) by omega), iV _ l i hil, toList_inj, bY i (by omega)]; by_cases h1 : Op.bytesLess l[i].toList s.toList = true
  ·simp only [if_pos h1]; have e : l.take i ++ gv s (l.drop i) = l.take (i + 1) ++ gv s (l.drop (i + 1)) := by
    rw [ed, gv, if_pos h1, List.take_add_one, List.getElem?_eq_getElem hil, List.append_assoc]; rfl
   rw [e]; exact ih (i + 1) (by omega)
  ·simp only [if_neg h1]; by_cases h2 : l[i] = s
   ·simp only [if_pos h2]; have e : l.take i ++ gv s (l.drop i) = l := by rw [ed, gv, if_neg h1, if_pos h2, ← ed, List.take_append_drop]
    rw [e]; exact Ev.now _
   ·have lt : (l.take i).length = i := by rw [List.length_take]; omega
    have ld : (l.drop i).length = l.length - i := List.length_drop; simp only [if_neg h2, Option.bind_some, if_pos (show (i : Int) ≤ (l.length : Int) by omega), bJ, List.nil_append, List.length_nil, Nat.zero_add, lt, if_pos (show i < 8796093022208 by omega), List.length_cons, List.length_append, Nat.add_zero, if_pos (show i + 1 < 8796093022208 by omega), ld, if_pos (show i + 1 + (l.length - i) < 8796093022208 by omega)]; have e : l.take i ++ gv s (l.drop i) = l.take i ++ [s] ++ l.drop i := by rw [ed, gv, if_neg h1, if_neg h2, List.append_assoc]; rfl
    rw [e]; exact Ev.now _
theorem lZ (s : ByteArray) (l : List ByteArray) (hn : l.length ≤ 1099511627776) : Ev (fun k => br.f k l s) (gv s l) := by
 have := lD s l hn l.length 0 (by omega); simpa [br.f] using this
open Classical in
theorem kt (L : List ByteArray) (hL : L.length ≤ 1048577) (hx : ∀ x ∈ L, x.size ≤ 1048576) : ∀ (d i : Nat) (acc : List ByteArray), i + d = L.length → acc.length ≤ i →
  Ev (fun k => bv.l0 k acc L (i : Int)) (if f7 (L.drop i) then (kj acc (L.drop i), decide (L.length ≤ 4)) else ([], false)) := by
 intro d; induction d with
 | zero =>
  intro i acc hi ha; refine Ev.step (fun k => bv.l0.eq_2 _ _ _ _) ?_; simp only [if_neg (show ¬ ((i : Int) < (L.length : Int)) by omega)]; rw [List.drop_eq_nil_of_le (by omega), if_pos (show f7 [] from fun x hx => by simp at hx)]; have e : decide ((L.length : Int) ≤ 4) = decide (L.length ≤ 4) := decide_eq_decide.2 ⟨fun h => by omega, fun h => by omega⟩; rw [e]; exact Ev.now _
 | succ d ih =>
  intro i acc hi ha; have hil : i < L.length := by omega
  have hxi := hx L[i] (List.getElem_mem _); have hl2 := jH L[i] acc; refine Ev.step (fun k => bv.l0.eq_2 _ _ _ _) ?_; simp only [if_pos (show ((i : Int) < (L.length : Int)) by omega), if_pos (show 0 ≤ (i : Int) by omega), iV _ L i hil, bY i (by omega)]; refine Ev.bind (eW L[i] (by omega)) ?_; rw [cX L i hil]; cases hnm : eQ (ak L[i]) with
  | false =>
   simp only [if_neg (show ¬ (false = true) by decide)]; rw [if_neg (fun h => by have := (eU.1 h).1; rw [hnm] at this; cases this)]; exact Ev.now _
  | true =>
   simp only [if_true]; refine Ev.bind (lZ L[i] acc (by omega)) ?_; have h := ih (i + 1) (gv L[i] acc) (by omega) (by omega); rw [m0]; by_cases hp : f7 (L.drop (i + 1))
   ·rw [if_pos hp] at h; rw [if_pos (eU.2 ⟨hnm, hp⟩)]; exact h
   ·rw [if_neg hp] at h; rw [if_neg (fun h2 => hp (eU.1 h2).2)]; exact h
open Classical in
noncomputable def iT (s : ByteArray) : List ByteArray × Bool := if f7 (ek 44 s) then (kj [] (ek 44 s), decide ((ek 44 s).length ≤ 4)) else ([], false)
theorem jT (s : ByteArray) (a b : Nat) : s.extract a b = mkT ((s.data.toList.drop a).take (b - a)) := by
 rw [← nJ (s.extract a b), Lib.extract_data]
theorem mq (l : List UInt8) {f i : Nat} (hf : f ≤ i) : (l.drop f).take (i - f) ++ l.drop i = l.drop f := by
 have := List.take_append_drop (i - f) (l.drop f); rw [List.drop_drop, show f + (i - f) = i by omega] at this; exact this
theorem qu {l : List UInt8} {f i : Nat} (hf : f ≤ i) (hi : i < l.length) : (l.drop f).take (i + 1 - f) = (l.drop f).take (i - f) ++ [l[i]] := by
 have e : i + 1 - f = (i - f) + 1 := by omega
 rw [e, List.take_add_one, List.getElem?_drop, show f + (i - f) = i by omega, List.getElem?_eq_getElem hi]; rfl
theorem pZ (a b : UInt8) : ((a.toNat : Int) = (b.toNat : Int)) ↔ a = b := ⟨fun h => UInt8.toNat_inj.1 (by omega), fun h => by rw [h]⟩
theorem qS (c : UInt8) (s : ByteArray) (hs : s.size ≤ 1099511627776) (most : Nat) : ∀ (d i f n : Nat) (out : List ByteArray), i + d = s.size → f ≤ i → out.length + n = most → out.length ≤ i →
  Ev (fun k => bi.l0 k s (c.toNat : Int) (most : Int) out (f : Int) (i : Int)) (out ++ (eC c n ((s.data.toList.drop f).take (i - f)) (s.data.toList.drop i)).map mkT) := by
 have hlen := fq s; have fin : ∀ (i f : Nat) (out : List ByteArray), f ≤ i → i ≤ s.size → out.length ≤ i → ∀ k, bi.j1 (k + 1) s (c.toNat : Int) (most : Int) out (f : Int) (i : Int) false = some (out ++ [mkT (s.data.toList.drop f)]) := by
  intro i f out hf hi ho k; have e := jT s f s.size; rw [List.take_of_length_le (by rw [List.length_drop]; omega)] at e; rw [bi.j1.eq_2]; simp only [if_neg (show ¬ (false = true) by decide), if_pos (show 0 ≤ (f : Int) by omega), if_pos (show (f : Int) ≤ (s.size : Int) by omega), if_pos (show out.length < 8796093022208 by omega), bJ, e]
 have finE : ∀ (i f : Nat) (out : List ByteArray), f ≤ i → i ≤ s.size → out.length ≤ i → Ev (fun k => bi.j1 k s (c.toNat : Int) (most : Int) out (f : Int) (i : Int) false) (out ++ [mkT (s.data.toList.drop f)]) := by
  intro i f out hf hi ho; refine ⟨1, fun k hk => ?_⟩; obtain ⟨k, rfl⟩ : ∃ m, k = m + 1 := ⟨k - 1, by omega⟩; exact fin i f out hf hi ho k
 intro d; induction d with
 | zero =>
  intro i f n out hi hf hn ho; refine Ev.step (fun k => bi.l0.eq_2 _ _ _ _ _ _ _) ?_; simp only [if_neg (show ¬ ((i : Int) < (s.size : Int)) by omega)]; have e := mq s.data.toList hf; have e0 : s.data.toList.drop i = [] := List.drop_eq_nil_of_le (by omega); rw [e0, List.append_nil] at e; have hc : eC c n ((s.data.toList.drop f).take (i - f)) (s.data.toList.drop i) = [s.data.toList.drop f] := by
   rw [e0, e]; cases n <;> rfl
  rw [hc]; exact finE i f out hf (by omega) ho
 | succ d ih =>
  intro i f n out hi hf hn ho; refine Ev.step (fun k => bi.l0.eq_2 _ _ _ _ _ _ _) ?_; simp only [if_pos (show ((i : Int) < (s.size : Int)) by omega)]; cases n with
  | zero =>
   rw [decide_eq_false (show ¬ (out.length : Int) < (most : Int) by omega), gY, mq _ hf]; exact finE i f out hf (by omega) ho
  | succ n =>
   rw [decide_eq_true (show (out.length : Int) < (most : Int) by omega)]; refine Ev.step (fun k => bi.j1.eq_2 _ _ _ _ _ _ _ _) ?_; have hil : i < s.data.toList.length := by omega
   have ed : s.data.toList.drop i = s.data.toList[i] :: s.data.toList.drop (i + 1) := List.drop_eq_getElem_cons hil; rw [ed]; simp only [if_true, if_pos (show 0 ≤ (i : Int) by omega), if_pos (show ((i : Int) < (s.size : Int)) by omega), ph s i hil, pZ, bY i (by omega)]; by_cases hb : s.data.toList[i] = c
   ·have e := jT s f i; rw [eC, if_pos hb]; simp only [if_pos hb, if_pos (show 0 ≤ (f : Int) by omega), if_pos (show (f : Int) ≤ (i : Int) by omega), if_pos (show (i : Int) ≤ (s.size : Int) by omega), if_pos (show out.length < 8796093022208 by omega), bJ, e]; have h := ih (i + 1) (i + 1) n (out ++ [mkT ((s.data.toList.drop f).take (i - f))]) (by omega) (Nat.le_refl _) (by simp; omega) (by simp; omega); rw [Nat.sub_self, List.take_zero, List.append_assoc] at h; exact h
   ·rw [eC, if_neg hb]; simp only [if_neg hb]; have h := ih (i + 1) f (n + 1) out (by omega) (by omega) hn (by omega); rw [qu hf hil] at h; exact h
theorem l7 (c : UInt8) (n : Nat) (s : ByteArray) (hs : s.size ≤ 1099511627776) : Ev (fun k => bi.f k s (c.toNat : Int) (n : Int)) (cutT c n s) := by
 simp only [bi.f, cutT]; have := qS c s hs n s.size 0 0 n [] (by omega) (Nat.le_refl _) (by simp) (by simp); simpa using this
theorem kR (s : ByteArray) (hs : s.size ≤ 1048576) : Ev (fun k => bv.f k s) (iT s) := by
 have hlen := hY 44 s; simp only [bv.f, bY s.size (by omega)]; have h1 := l7 44 (s.size + 1) s (by omega); rw [q8] at h1; refine Ev.bind h1 ?_; have h := kt (ek 44 s) (by omega) (fun x hx => by have := jM hx; omega) (ek 44 s).length 0 [] (by omega) (by simp); rw [List.drop_zero] at h; exact h
theorem oA (s : ByteArray) : (iT s).2 = true ↔ kD s := by
 unfold iT kD
 split
 ·rename_i h
  simp only [decide_eq_true_eq]; exact ⟨fun h2 => ⟨h, h2⟩, fun h2 => h2.2⟩
 ·rename_i h
  exact ⟨(fun h2 => by cases h2), fun h2 => absurd h2.1 h⟩
open Classical in
theorem kX (a : ByteArray) (b c : Int) (s : ByteArray) (hs : s.size ≤ 1048576) : Ev (fun k => eb.f k a b c s) (decide (ez s 60 = true ∧ jL b s)) := by
 obtain ⟨v, hv⟩ := jo s hs; have ht := oA s; simp only [eb.f]; refine Ev.bind hv ?_; refine Ev.bind (kR s hs) ?_; refine Ev.bind (gF s (by omega)) ?_; unfold jL
 cases hp : ez s 60 with
 | false => simp only [if_neg (show ¬ (false = true) by decide)]; exact bg (fun h => by cases h.1) (Ev.now _)
 | true =>
  simp only [if_true]; have third : Ev (fun _ : Nat => some ((iT s).2)) (decide (kD s)) := by
   have e : (iT s).2 = decide (kD s) := by rw [Bool.eq_iff_iff, decide_eq_true_eq]; exact ht
   rw [e]; exact Ev.now _
  by_cases h1 : b = 1
  ·simp only [if_pos h1]; exact eF ⟨(by first | trivial | rfl), Or.inl h1⟩ (Ev.now _)
  ·simp only [if_neg h1]; by_cases h2 : b = 2
   ·simp only [if_pos h2]; cases hn : (iv s).2 with
    | true => simp only [if_true]; exact eF ⟨(by first | trivial | rfl), Or.inr (Or.inl ⟨h2, (by first | trivial | rfl)⟩)⟩ (Ev.now _)
    | false =>
     simp only [if_neg (show ¬ (false = true) by decide), if_neg (show ¬ b = 3 by omega)]; refine bg (fun h => ?_) (Ev.now _); rcases h.2 with h | ⟨_, h⟩ | ⟨h, _⟩
     ·exact h1 h
     ·first | exact absurd h (by simp) | cases h
     ·omega
   ·simp only [if_neg h2]; by_cases h3 : b = 3
    ·simp only [if_pos h3]; refine cU ?_ third; exact ⟨fun h => ⟨(by first | trivial | rfl), Or.inr (Or.inr ⟨h3, h⟩)⟩, fun h => by
      rcases h.2 with h | ⟨h, _⟩ | ⟨_, h⟩
      ·exact absurd h h1
      ·exact absurd h h2
      ·exact h⟩
    ·simp only [if_neg h3]; refine bg (fun h => ?_) (Ev.now _); rcases h.2 with h | ⟨h, _⟩ | ⟨h, _⟩
     ·exact h1 h
     ·exact h2 h
     ·exact h3 h
open Classical in
theorem jv (l : List S92) (hn : l.length ≤ 1048577) (hs : ∀ x ∈ l, x.f0.size ≤ 1048576) : ∀ (d i : Nat), i + d = l.length → Ev (fun k => ar.l0 k l (i : Int)) (decide (du l i)) := by
 intro d; induction d with
 | zero =>
  intro i hi; refine Ev.step (fun k => ar.l0.eq_2 _ _ _) ?_; simp only [if_neg (show ¬ ((i : Int) < (l.length : Int)) by omega), dR, Option.bind_some]; refine cL (gM (by omega)).symm ?_; refine gw fun _ => ?_
  congr 1; exact decide_eq_decide.2 (by omega)
 | succ d ih =>
  intro i hi; have hst := gl (l := l) (j := i) (by omega); have hsz := hs l[i] (List.getElem_mem _); refine Ev.step (fun k => ar.l0.eq_2 _ _ _) ?_; simp only [if_pos (show ((i : Int) < (l.length : Int)) by omega), if_pos (show 0 ≤ (i : Int) by omega), eu l i (by omega), dR, Option.bind_some]; have hj2 : ∀ (t o : Bool), ((t || o) = true ↔ fQ l[i]) → Ev (fun k => ar.j2 k l (i : Int) t o l[i].f0 l[i].f1 l[i].f2) (decide (du l i)) := by
   intro t o hto; refine Ev.step (fun k => ar.j2.eq_2 _ _ _ _ _ _ _ _) ?_; refine Ev.bind (eW l[i].f0 (by omega)) ?_; cases hnm : eQ (ak l[i].f0) with
   | false =>
    simp only [if_neg (show ¬ (false = true) by decide)]; refine cm (fun h => ?_) (Ev.now _); have := fX.2 (hst.1 h).1.1; rw [hnm] at this; cases this
   | true =>
    simp only [if_true]; obtain ⟨r, hr, hq⟩ := fi l l[i].f0 (by omega); refine Ev.bind hr ?_; by_cases he : r = (i : Int)
    ·have hfirst : ∀ m (hm : m < i), l[m].f0 ≠ l[i].f0 := by
      rcases hq with hq | ⟨j, hj, h1, h2, h3⟩
      ·omega
      ·obtain rfl : j = i := by omega
       exact h3
     simp only [if_pos he, bY i (by omega)]; have hnext := ih (i + 1) (by omega); by_cases hp : fQ l[i]
     ·have hb := hto.2 hp; have hgoal : Ev (fun k => ar.l0 k l ((i + 1 : Nat) : Int)) (decide (du l i)) := cL (hst.trans ⟨fun h => h.2, fun h => ⟨⟨fX.1 hnm, hp, hfirst⟩, h⟩⟩).symm hnext; cases t with
      | true => simp only [if_true]; exact hgoal
      | false =>
       have ho : o = true := by simpa using hb
       simp only [if_neg (show ¬ (false = true) by decide), ho, if_true]; exact hgoal
     ·have hb : (t || o) = false := by rw [Bool.eq_false_iff]; exact fun h => hp (hto.1 h)
      have ht : t = false := by cases t; rfl; simp at hb
      have ho : o = false := by cases o; rfl; simp at hb
      simp only [ht, ho, if_neg (show ¬ (false = true) by decide)]; exact cm (fun h => hp (hst.1 h).1.2.1) (Ev.now _)
    ·simp only [if_neg he]; refine cm (fun h => ?_) (Ev.now _); have h4 := (hst.1 h).1.2.2; rcases hq with ⟨h1, h2⟩ | ⟨j, hj, h1, h2, h3⟩
     ·exact h2 l[i] (List.getElem_mem _) rfl
     ·rcases Nat.lt_trichotomy j i with h5 | h5 | h5
      ·exact h4 j h5 h2
      ·exact he (by omega)
      ·exact h3 i h5 rfl
  have hj1 : ∀ (t : Bool), (t = true ↔ (l[i].f1 = 1 ∧ 1 ≤ l[i].f2 ∧ l[i].f2 ≤ 9)) → Ev (fun k => ar.j1 k l (i : Int) t l[i].f0 l[i].f1 l[i].f2) (decide (du l i)) := by
   intro t ht; refine Ev.step (fun k => ar.j1.eq_2 _ _ _ _ _ _ _) ?_; simp only [dR, Option.bind_some, decide_eq_true_eq]; by_cases h2 : 2 ≤ l[i].f1 ∧ l[i].f1 ≤ 3
   ·simp only [if_pos h2]; refine hj2 t _ ?_; unfold fQ
    rw [Bool.or_eq_true, ht, beq_iff_eq]; constructor
    ·rintro (h | h)
     ·exact .inl h
     ·exact .inr ⟨h2.1, h2.2, h⟩
    ·rintro (h | h)
     ·exact .inl h
     ·exact .inr h.2.2
   ·simp only [if_neg h2]; refine hj2 t false ?_; unfold fQ
    rw [Bool.or_false, ht]; exact ⟨.inl, fun h => h.resolve_right (fun h3 => h2 ⟨h3.1, h3.2.1⟩)⟩
  by_cases h1 : l[i].f1 = 1
  ·simp only [if_pos h1]; refine hj1 _ ?_; rw [decide_eq_true_eq]; exact ⟨fun h => ⟨h1, h⟩, fun h => h.2⟩
  ·simp only [if_neg h1]; exact hj1 false ⟨(fun h => by cases h), fun h => absurd h.1 h1⟩
theorem fR (l : List S92) (hn : l.length ≤ 1048577) (hs : ∀ x ∈ l, x.f0.size ≤ 1048576) : Ev (fun k => ar.f k l) (fe l) := jv l hn hs l.length 0 (by omega)
open Classical in
theorem lJ (F : List S92) (hF : F.length ≤ 1048576) (hFs : ∀ x ∈ F, x.f0.size ≤ 1048576) (key : ByteArray) (l : List S86) (hk : key.size ≤ 1048576) (hn : l.length ≤ 1048576) (hs : ∀ x ∈ l, x.f0.size ≤ 1048576 ∧ x.f1.size ≤ 1048576) : ∀ (d i : Nat), i + d = l.length →
  Ev (fun k => bc.l0 k F (i : Int) key l) (decide ((∀ c ∈ l.drop i, ez c.f1 60 = true ∧ jL (eB F c.f0) c.f1) ∧ fe F = true ∧ jU key l = true)) := by
 intro d; induction d with
 | zero =>
  intro i hi; refine Ev.step (fun k => bc.l0.eq_2 _ _ _ _ _) ?_; simp only [if_neg (show ¬ ((i : Int) < (l.length : Int)) by omega)]; rw [List.drop_eq_nil_of_le (by omega)]; refine Ev.bind (fR F (by omega) hFs) ?_; cases hf : fe F with
  | false => simp only [if_neg (show ¬ (false = true) by decide)]; exact bg (fun h => by cases h.2.1) (Ev.now _)
  | true =>
   simp only [if_true]; refine Ev.bind (kQ key l hk hn hs) ?_; cases hm : jU key l with
   | false => exact bg (fun h => by cases h.2.2) (Ev.now _)
   | true => exact eF ⟨fun c hc => by simp at hc, (by first | trivial | rfl), (by first | trivial | rfl)⟩ (Ev.now _)
 | succ d ih =>
  intro i hi; have hil : i < l.length := by omega
  have hsz := hs l[i] (List.getElem_mem _); obtain ⟨r, hr, hq⟩ := fi F l[i].f0 (by omega); refine Ev.step (fun k => bc.l0.eq_2 _ _ _ _ _) ?_; rw [cX l i hil]; simp only [if_pos (show ((i : Int) < (l.length : Int)) by omega), if_pos (show 0 ≤ (i : Int) by omega), fh l i hil, bY i (by omega)]; refine Ev.bind hr ?_; rcases hq with ⟨rfl, hno⟩ | ⟨j, hj, rfl, hj2, hjb⟩
  ·simp only [if_pos (show (-1 : Int) < 0 by decide)]; refine bg (fun h => ?_) (Ev.now _); have h1 := (h.1 l[i] (List.mem_cons_self ..)).2; unfold eB at h1
   rw [gi hno] at h1; rcases h1 with h1 | ⟨h1, _⟩ | ⟨h1, _⟩ <;> exact absurd h1 (by decide)
  ·have hk2 : eB F l[i].f0 = F[j].f1 := by unfold eB; rw [ga hj hj2 hjb]
   simp only [if_neg (show ¬ (j : Int) < 0 by omega), if_pos (show 0 ≤ (j : Int) by omega), if_pos (show (j : Int) < (F.length : Int) by omega), eu F j hj]; refine Ev.bind (kX _ _ _ l[i].f1 hsz.2) ?_; by_cases hc : ez l[i].f1 60 = true ∧ jL F[j].f1 l[i].f1
   ·rw [decide_eq_true hc]; simp only [if_true]; refine cU ⟨fun h => ⟨fun c hcm => ?_, h.2⟩, fun h => ⟨fun c hcm => h.1 c (List.mem_cons_of_mem _ hcm), h.2⟩⟩ (ih (i + 1) (by omega)); rcases List.mem_cons.1 hcm with rfl | hcm
    ·rw [hk2]; exact hc
    ·exact h.1 c hcm
   ·rw [decide_eq_false hc]; simp only [if_neg (show ¬ (false = true) by decide)]; refine bg (fun h => hc ?_) (Ev.now _); have := h.1 l[i] (List.mem_cons_self ..); rw [hk2] at this; exact this
open Classical in
theorem lU (F : List S92) (hF : F.length ≤ 1048576) (hFs : ∀ x ∈ F, x.f0.size ≤ 1048576) (key : ByteArray) (l : List S86) (hk : key.size ≤ 1048576) (hn : l.length ≤ 1048576) (hs : ∀ x ∈ l, x.f0.size ≤ 1048576 ∧ x.f1.size ≤ 1048576) : Ev (fun k => bc.f k F key l) (gD F key l) := by
 simp only [bc.f, gD]; have h := lJ F hF hFs key l hk hn hs l.length 0 (by omega); rw [List.drop_zero] at h; refine cU ?_ h; unfold jn
 exact ⟨fun h => ⟨h.2.1, h.2.2, fun c hc => (h.1 c hc).2⟩, fun h => ⟨fun c hc => ⟨((ll h.2.1).1 c hc).2, h.2.2 c hc⟩, h.1, h.2.1⟩⟩
theorem rT (R : List S46) (hR : R.length ≤ 1099511627776) (key : ByteArray) : Ev (fun k => ck.f k R key) (d6 key 0 R) := by
 have main : ∀ (d i : Nat), i + d = R.length → Ev (fun k => ck.l0 k R key (i : Int)) (d6 key i (R.drop i)) := by
  intro d; induction d with
  | zero =>
   intro i hi; refine Ev.step (fun k => ck.l0.eq_2 _ _ _ _) ?_; simp only [if_neg (show ¬ ((i : Int) < (R.length : Int)) by omega)]; rw [List.drop_eq_nil_of_le (by omega), d6]; exact Ev.now _
  | succ d ih =>
   intro i hi; have hil : i < R.length := by omega
   refine Ev.step (fun k => ck.l0.eq_2 _ _ _ _) ?_; rw [cX R i hil, d6]; simp only [if_pos (show ((i : Int) < (R.length : Int)) by omega), if_pos (show (0 : Int) ≤ (i : Int) by omega), iK R i hil, bY i (by omega), beq_iff_eq]; by_cases h : R[i].f1.f0.toList = key.toList
   ·simp only [if_pos h]; exact Ev.now _
   ·simp only [if_neg h]; exact ih (i + 1) (by omega)
 have := main R.length 0 (by omega); simpa [ck.f] using this
open Classical in
theorem pV (a b : List Int) (ha : a.length ≤ 1099511627776) : Ev (fun k => co.f k a b) (decide (a = b)) := by
 simp only [co.f]; by_cases hl : a.length = b.length
 ·simp only [if_pos (show (a.length : Int) = (b.length : Int) by omega)]; have main : ∀ (d i : Nat), i + d = a.length → Ev (fun k => co.l0 k a b (i : Int)) (decide (a.drop i = b.drop i)) := by
   intro d; induction d with
   | zero =>
    intro i hi; refine Ev.step (fun k => co.l0.eq_2 _ _ _ _) ?_; simp only [if_neg (show ¬ ((i : Int) < (a.length : Int)) by omega)]; rw [List.drop_eq_nil_of_le (by omega), List.drop_eq_nil_of_le (by omega)]; exact eF rfl (Ev.now _)
   | succ d ih =>
    intro i hi; have hia : i < a.length := by omega
    have hib : i < b.length := by omega
    refine Ev.step (fun k => co.l0.eq_2 _ _ _ _) ?_; simp only [if_pos (show ((i : Int) < (a.length : Int)) by omega), if_pos (show (0 : Int) ≤ (i : Int) by omega), if_pos (show ((i : Int) < (b.length : Int)) by omega), je a i hia, je b i hib, bY i (by omega)]; by_cases h : a[i] = b[i]
    ·simp only [if_pos h]; exact cU ⟨fun h2 => (b6 hia hib).2 ⟨h, h2⟩, fun h2 => ((b6 hia hib).1 h2).2⟩ (ih (i + 1) (by omega))
    ·simp only [if_neg h]; exact bg (fun h2 => h ((b6 hia hib).1 h2).1) (Ev.now _)
  have := main a.length 0 (by omega); simpa using this
 ·simp only [if_neg (show ¬ (a.length : Int) = (b.length : Int) by omega)]; exact bg (fun h => hl (by rw [h])) (Ev.now _)
open Classical in
theorem iZ : ∀ (a b : List S50), a.length = b.length → (∀ p ∈ a, p.f1.length ≤ 1099511627776) → Ev (fun k => aJ.ps k a b) (decide (a = b))
 | [], [], _, _ => eF rfl (gw (fun k => by rw [aJ.ps]; intro _ _ _ _ h; cases h))
 | p :: a, q :: b, hl, hs => by
  have ih := iZ a b (by simpa using hl) (fun x hx => hs x (List.mem_cons_of_mem _ hx)); have hi := pV p.f1 q.f1 (hs p (by simp)); simp only [aJ.ps]; by_cases h0 : p.f0 = q.f0
  ·simp only [if_pos h0]; refine Ev.bind hi ?_; by_cases h1 : p.f1 = q.f1
   ·rw [decide_eq_true h1]; simp only [if_true]; exact cU ⟨fun h => by rw [h, mN.2 ⟨h0, h1⟩], fun h => (List.cons.inj h).2⟩ ih
   ·rw [decide_eq_false h1]; simp only [if_neg (show ¬ (false = true) by decide)]; exact bg (fun h => h1 (by rw [(List.cons.inj h).1])) (Ev.now _)
  ·simp only [if_neg h0]; exact bg (fun h => h0 (by rw [(List.cons.inj h).1])) (Ev.now _)
 | [], _ :: _, h, _ => by simp at h
 | _ :: _, [], h, _ => by simp at h
open Classical in
theorem iI : ∀ (a b : List S76), a.length = b.length → (∀ e ∈ a, ∀ p ∈ e.f2, p.f1.length ≤ 1099511627776) → Ev (fun k => aJ.es k a b) (decide (a = b))
 | [], [], _, _ => eF rfl (gw (fun k => by rw [aJ.es]; intro _ _ _ _ h; cases h))
 | p :: a, q :: b, hl, hs => by
  have ih := iI a b (by simpa using hl) (fun x hx => hs x (List.mem_cons_of_mem _ hx)); simp only [aJ.es, toList_inj]; by_cases h0 : p.f0 = q.f0
  ·simp only [if_pos h0]; by_cases h1 : p.f1 = q.f1
   ·simp only [if_pos h1]; by_cases h2 : p.f2.length = q.f2.length
    ·simp only [if_pos h2]; refine Ev.bind (iZ p.f2 q.f2 h2 (hs p (by simp))) ?_; by_cases h3 : p.f2 = q.f2
     ·rw [decide_eq_true h3]; simp only [if_true]; exact cU ⟨fun h => by rw [h, kL.2 ⟨h0, h1, h3⟩], fun h => (List.cons.inj h).2⟩ ih
     ·rw [decide_eq_false h3]; simp only [if_neg (show ¬ (false = true) by decide)]; exact bg (fun h => h3 (by rw [(List.cons.inj h).1])) (Ev.now _)
    ·simp only [if_neg h2]; exact bg (fun h => h2 (by rw [(List.cons.inj h).1])) (Ev.now _)
   ·simp only [if_neg h1]; exact bg (fun h => h1 (by rw [(List.cons.inj h).1])) (Ev.now _)
  ·simp only [if_neg h0]; exact bg (fun h => h0 (by rw [(List.cons.inj h).1])) (Ev.now _)
 | [], _ :: _, h, _ => by simp at h
 | _ :: _, [], h, _ => by simp at h
open Classical in
theorem lm (a b : List S76) (hs : ∀ e ∈ a, ∀ p ∈ e.f2, p.f1.length ≤ 1099511627776) : Ev (fun k => aJ.f k a b) (decide (a = b)) := by
 simp only [aJ.f]; by_cases hl : a.length = b.length
 ·simp only [if_pos hl]; exact iI a b hl hs
 ·simp only [if_neg hl]; exact bg (fun h => hl (by rw [h])) (Ev.now _)
open Classical in
theorem jV {F : List S92} {R : List S46} {E : List S76} (hz : fN F R E) (n : Int) : ∀ (d i : Nat), i + d = R.length → (∀ (j : Nat) (h : j < R.length), j < i → n3 F R n j h) → Ev (fun k => am.l0 k (i : Int) F R E n) (decide (dm F R n i ∧ ic F R E n)) := by
 have hr := hz.r; intro d; induction d with
 | zero =>
  intro i hi hprev; have hall : dm F R n 0 := fun j hj _ => hprev j hj (by omega)
  have hend : dm F R n i := fun j hj hij => by omega
  refine Ev.step (fun k => am.l0.eq_2 _ _ _ _ _ _) ?_; simp only [if_neg (show ¬ ((i : Int) < (R.length : Int)) by omega)]; refine Ev.bind (fR F (by have := hz.f; omega) hz.fs) ?_; cases hf : fe F with
  | false => simp only [if_neg (show ¬ (false = true) by decide)]; exact bg (fun h => by have := h.2.1; rw [hf] at this; cases this) (Ev.now _)
  | true =>
   simp only [if_true]; by_cases h8 : R.length ≤ 8
   ·simp only [if_pos (show ((R.length : Int) ≤ 8) by omega), dR, Option.bind_some]; by_cases hn : 0 ≤ n ∧ n ≤ 999999999
    ·simp only [decide_eq_true hn, if_true]; obtain ⟨L, h1, h2, h3⟩ := ly F hz.f R (mf hall) h8; refine Ev.bind h2 ?_; refine Ev.bind (lm L E (fun e he p hp => by have := ((h3.2 e he).2).2 p hp; omega)) ?_; refine cU ⟨fun h => ⟨hend, hf, h8, hn, by rw [← h]; exact h2⟩, fun h => mc h2 h.2.2.2.2⟩ (Ev.now (decide (L = E)))
    ·simp only [decide_eq_false hn, if_neg (show ¬ (false = true) by decide)]; exact bg (fun h => hn h.2.2.2.1) (Ev.now _)
   ·simp only [if_neg (show ¬ ((R.length : Int) ≤ 8) by omega)]; exact bg (fun h => h8 h.2.2.1) (Ev.now _)
 | succ d ih =>
  intro i hi hprev; have hil : i < R.length := by omega
  have hs := hz.rs _ (List.getElem_mem hil); have next : n3 F R n i hil → Ev (fun k => am.l0 k ((i + 1 : Nat) : Int) F R E n) (decide (dm F R n i ∧ ic F R E n)) := fun hp =>
   cU ⟨fun h => ⟨(dS hil).2 ⟨hp, h.1⟩, h.2⟩, fun h => ⟨((dS hil).1 h.1).2, h.2⟩⟩ (ih (i + 1) (by omega) (fun j hj hji => by
    rcases Nat.lt_or_ge j i with hlt | hge
    ·exact hprev j hj hlt
    ·obtain rfl : j = i := by omega
     exact hp))
  have stop : ¬ n3 F R n i hil → Ev (fun _ : Nat => some false) (decide (dm F R n i ∧ ic F R E n)) := fun hp => bg (fun h => hp ((dS hil).1 h.1).1) (Ev.now _)
  refine Ev.step (fun k => am.l0.eq_2 _ _ _ _ _ _) ?_; simp only [if_pos (show ((i : Int) < (R.length : Int)) by omega), if_pos (show (0 : Int) ≤ (i : Int) by omega), iK R i hil, bY i (by omega)]; refine Ev.bind (lU F hz.f hz.fs R[i].f1.f0 R[i].f1.f1 hs.1 hs.2.1 hs.2.2) ?_; cases hd : gD F R[i].f1.f0 R[i].f1.f1 with
  | false => simp only [if_neg (show ¬ (false = true) by decide)]; exact stop (fun h => by have := h.1; rw [hd] at this; cases this)
  | true =>
   simp only [if_true]; refine Ev.bind (rT R (by omega) R[i].f1.f0) ?_; by_cases hk : d6 R[i].f1.f0 0 R = (i : Int)
   ·simp only [if_pos hk, dR, Option.bind_some]; by_cases hin : 0 ≤ R[i].f0 ∧ R[i].f0 ≤ wrap64 (n - 1)
    ·simp only [decide_eq_true hin, if_true]; by_cases h0 : 0 < i
     ·obtain ⟨m, rfl⟩ : ∃ m, i = m + 1 := ⟨i - 1, by omega⟩; simp only [if_pos (show ((m + 1 : Nat) : Int) > 0 by omega), wpred m (by omega), if_pos (show (0 : Int) ≤ (m : Int) by omega), if_pos (show ((m : Int) < (R.length : Int)) by omega), iK R m (by omega)]; by_cases ho : R[m].f0 ≥ R[m + 1].f0
      ·simp only [if_pos ho]; exact stop (fun h => by have h2 : R[m].f0 < R[m + 1].f0 := h.2.2.2 h0; omega)
      ·simp only [if_neg ho]; exact next ⟨hd, hk, hin, fun _ => by show R[m].f0 < R[m + 1].f0; omega⟩
     ·simp only [if_neg (show ¬ ((i : Int) > 0) by omega)]; exact next ⟨hd, hk, hin, fun h => absurd h h0⟩
    ·simp only [decide_eq_false hin, if_neg (show ¬ (false = true) by decide)]; exact stop (fun h => hin h.2.2.1)
   ·simp only [if_neg hk]; exact stop (fun h => hk h.2.1)
theorem j6 {F : List S92} {R : List S46} {E : List S76} (hz : fN F R E) (n : Int) : Ev (fun k => am.f k F R E n) (iw F R E n) := by
 have := jV hz n R.length 0 (by omega) (fun j hj h => by omega); simpa [am.f, iw] using this
theorem nO (s p : ByteArray) : dr.f s p = some (gh s p) := by
 unfold dr.f gh
 split
 ·rw [if_pos (by omega)]
 ·rfl
theorem iC (F : List S92) (R : List S46) (E : List S76) (n : Int) (f p : ByteArray) (hE : E.length ≤ 1099511627776) : ∀ (d i : Nat) (acc : List ByteArray), i + d = E.length → acc.length ≤ i → Ev (fun k => ba.l0 k f p acc (i : Int) F R E n) (acc ++ f3 f p (E.drop i)) := by
 intro d; induction d with
 | zero =>
  intro i acc hi ha; refine Ev.step (fun k => ba.l0.eq_2 _ _ _ _ _ _ _ _ _) ?_; simp only [if_neg (show ¬ ((i : Int) < (E.length : Int)) by omega)]; rw [List.drop_of_length_le (by omega), f3, List.append_nil]; exact Ev.now _
 | succ d ih =>
  intro i acc hi ha; have hl : i < E.length := by omega
  refine Ev.step (fun k => ba.l0.eq_2 _ _ _ _ _ _ _ _ _) ?_; rw [List.drop_eq_getElem_cons hl, f3]; simp only [if_pos (show ((i : Int) < (E.length : Int)) by omega), if_pos (show 0 ≤ (i : Int) by omega), fW E i hl, nO, Option.bind_some, bY i (by omega)]; by_cases h1 : E[i].f0.toList = f.toList
  ·simp only [if_pos h1]; by_cases h2 : gh E[i].f1 p = true
   ·simp only [if_pos h2, if_pos (show acc.length < 8796093022208 by omega)]; have := ih (i + 1) (acc ++ [E[i].f1]) (by omega) (by simp; omega); rwa [List.append_assoc] at this
   ·simp only [if_neg h2]; exact ih (i + 1) acc (by omega) (by omega)
  ·simp only [if_neg h1]; exact ih (i + 1) acc (by omega) (by omega)
theorem il {F : List S92} {R : List S46} {E : List S76} (hz : fN F R E) (n : Int) (f p : ByteArray) : Ev (fun k => ba.f k F R E n f p) (gg F R E n f p) := by
 have he := hz.e; simp only [ba.f, Option.bind_some]; refine Ev.bind (j6 hz n) ?_; unfold gg
 by_cases hb : iw F R E n = true
 ·simp only [if_pos hb]; exact iC F R E n f p (by omega) E.length 0 [] (by omega) (by simp)
 ·simp only [if_neg hb]; exact Ev.now _
theorem iX (f p : ByteArray) : ∀ l : List S76, (f3 f p l).length ≤ l.length
 | [] => by simp [f3]
 | e :: l => by
  have := iX f p l; rw [f3, List.length_cons]; split
  ·split
   ·rw [List.length_cons]; omega
   ·omega
  ·omega
theorem nC {F : List S92} {R : List S46} {E : List S76} (hz : fN F R E) (n : Int) (f p : ByteArray) : (gg F R E n f p).length ≤ 1048576 := by
 have he := hz.e; have := iX f p E; unfold gg
 split
 ·omega
 ·simp
theorem pd : ∀ (n : Nat) (a : Int), 0 ≤ a → a + n ≤ 4611686018427387904 → n0 n a = a + n
 | 0, a, _, _ => by simp [n0]
 | n + 1, a, h0, h1 => by
  rw [n0, bC (by omega) (by omega), pd n (a + 1) (by omega) (by omega)]; omega
theorem rA : ∀ (ns : List Nat) (a : Int), (∀ x ∈ ns, x ≤ 1048576) → 0 ≤ a → a + ns.length * 1048577 ≤ 4611686018427387904 → a ≤ mkP ns a ∧ mkP ns a ≤ a + ns.length * 1048577
 | [], a, _, _, _ => by simp [mkP]
 | n :: ns, a, hm, h0, h1 => by
  have hn := hm n (by simp); rw [List.length_cons] at h1; rw [mkP, bC (by omega) (by omega), pd n (a + 1) (by omega) (by omega), List.length_cons]; have := rA ns (a + 1 + n) (fun x hx => hm x (List.mem_cons_of_mem _ hx)) (by omega) (by omega); omega
open Classical in
noncomputable def MT (n : Int) : ByteArray := if h : ∃ r, Ev (fun k => ay.f k n) r then Classical.choose h else ByteArray.empty
theorem ol : ∀ (d : Nat) (n : Int) (s : ByteArray), 0 ≤ n → n ≤ 9223372036854775807 → n < 10 ^ d → s.size + d ≤ 1000 → ∃ r, Ev (fun k => ay.l0 k n s) r := by
 intro d; induction d with
 | zero =>
  intro n s h0 hm h1 hs; refine ⟨(⟨#[109]⟩ : ByteArray) ++ s, Ev.step (fun k => ay.l0.eq_2 _ _ _) ?_⟩; simp only [if_neg (show ¬ n > 0 by simp at h1; omega), if_pos (show 1 + s.size ≤ 9223372036854775807 by omega)]; exact Ev.now _
 | succ d ih =>
  intro n s h0 hm h1 hs; by_cases hp : n > 0
  ·have e : Int.tdiv n 10 = n / 10 := Int.tdiv_eq_ediv_of_nonneg h0; have hq : n / 10 < 10 ^ d := by
    have : n < 10 ^ d * 10 := by rw [← Int.pow_succ]; exact h1
    omega
   obtain ⟨r, hr⟩ := ih (n / 10) ((strOfNums [(wrap64 (48 + (Int.tmod n 10))) % 256]) ++ s) (by omega) (by omega) hq (by rw [ByteArray.size_append, strOfNums_size]; simp; omega); refine ⟨r, Ev.step (fun k => ay.l0.eq_2 _ _ _) ?_⟩; simp only [if_pos hp, Option.bind_some, strOfNums_size, List.length_singleton, if_pos (show 1 + s.size ≤ 9223372036854775807 by omega), e, bC (x := n / 10) (by omega) (by omega)]; exact hr
  ·refine ⟨(⟨#[109]⟩ : ByteArray) ++ s, Ev.step (fun k => ay.l0.eq_2 _ _ _) ?_⟩; simp only [if_neg hp, if_pos (show 1 + s.size ≤ 9223372036854775807 by omega)]; exact Ev.now _
theorem ng (n : Int) (h0 : 0 ≤ n) (h1 : n ≤ 9223372036854775807) : ∃ r, Ev (fun k => ay.f k n) r := by
 simp only [ay.f]; by_cases h : n ≤ 0
 ·simp only [if_pos h]; exact ⟨_, Ev.now _⟩
 ·simp only [if_neg h]; exact ol 20 n _ h0 h1 (by omega) (by decide)
theorem dI (n : Int) (h0 : 0 ≤ n) (h1 : n ≤ 4611686018427387904) : Ev (fun k => ay.f k n) (MT n) := by
 have h := ng n h0 (by omega); unfold MT
 rw [dif_pos h]; exact Classical.choose_spec h
theorem rU : ∀ (ns : List (List Nat)) (a : Int), (∀ x ∈ ns, x.length ≤ 1048576 ∧ ∀ y ∈ x, y ≤ 1048576) → 0 ≤ a → a + ns.length * 1099512676354 ≤ 4611686018427387904 → ∃ r, Ev (fun k => mkE k ns a) r ∧ a ≤ r ∧ r ≤ a + ns.length * 1099512676354
 | [], a, _, _, _ => ⟨a, by simp only [mkE]; exact Ev.now _, by omega, by simp⟩
 | n :: ns, a, hm, h0, h1 => by
  obtain ⟨hn, hy⟩ := hm n (by simp); rw [List.length_cons] at h1 ⊢; obtain ⟨p1, p2⟩ := rA n (a + 1 + 1) hy (by omega) (by omega); obtain ⟨r, hr, h2, h3⟩ := rU ns (mkP n (a + 1 + 1)) (fun x hx => hm x (List.mem_cons_of_mem _ hx)) (by omega) (by omega); refine ⟨r, ?_, by omega, by omega⟩; simp only [mkE]; rw [bC (x := a + 1) (by omega) (by omega), bC (x := a + 1 + 1) (by omega) (by omega)]; refine Ev.bind (dI a h0 (by omega)) ?_; exact Ev.bind (dI (a + 1) (by omega) (by omega)) hr
theorem rp : ∀ (n : Nat) (a : Int), 0 ≤ a → a + 3 * n ≤ 4611686018427387904 → Ev (fun k => mkF k n a) (a + 3 * n)
 | 0, a, _, _ => by simp only [mkF, Int.natCast_zero, Int.mul_zero, Int.add_zero]; exact Ev.now _
 | n + 1, a, h0, h1 => by
  simp only [mkF]; refine Ev.bind (dI a h0 (by omega)) ?_; rw [bC (x := a + 1) (by omega) (by omega), bC (x := a + 1 + 1) (by omega) (by omega), bC (x := a + 1 + 1 + 1) (by omega) (by omega)]; have := rp n (a + 1 + 1 + 1) (by omega) (by omega); rwa [show a + 1 + 1 + 1 + 3 * (n : Int) = a + 3 * ((n + 1 : Nat) : Int) by omega] at this
theorem rj : ∀ (n : Nat) (a : Int), 0 ≤ a → a + 2 * n ≤ 4611686018427387904 → Ev (fun k => mkC k n a) (a + 2 * n)
 | 0, a, _, _ => by simp only [mkC, Int.natCast_zero, Int.mul_zero, Int.add_zero]; exact Ev.now _
 | n + 1, a, h0, h1 => by
  simp only [mkC]; refine Ev.bind (dI a h0 (by omega)) ?_; rw [bC (x := a + 1) (by omega) (by omega), bC (x := a + 1 + 1) (by omega) (by omega)]; refine Ev.bind (dI (a + 1) (by omega) (by omega)) ?_; have := rj n (a + 1 + 1) (by omega) (by omega); rwa [show a + 1 + 1 + 2 * (n : Int) = a + 2 * ((n + 1 : Nat) : Int) by omega] at this
theorem qP : ∀ (ns : List Nat) (a : Int), (∀ x ∈ ns, x ≤ 1048576) → 0 ≤ a → a + ns.length * 2097154 ≤ 4611686018427387904 → ∃ r, Ev (fun k => mkR k ns a) r ∧ a ≤ r ∧ r ≤ a + ns.length * 2097154
 | [], a, _, _, _ => ⟨a, by simp only [mkR]; exact Ev.now _, by omega, by simp⟩
 | n :: ns, a, hm, h0, h1 => by
  have hn := hm n (by simp); rw [List.length_cons] at h1 ⊢; obtain ⟨r, hr, h2, h3⟩ := qP ns (a + 1 + 1 + 2 * n) (fun x hx => hm x (List.mem_cons_of_mem _ hx)) (by omega) (by omega); refine ⟨r, ?_, by omega, by omega⟩; simp only [mkR]; rw [bC (x := a + 1) (by omega) (by omega), bC (x := a + 1 + 1) (by omega) (by omega)]; refine Ev.bind (dI (a + 1) (by omega) (by omega)) ?_; exact Ev.bind (rj n (a + 1 + 1) (by omega) (by omega)) hr
theorem rF {F : List S92} {R : List S46} {E : List S76} (hz : fN F R E) (n : Int) : ∃ r, Ev (fun k => dF.f k F R E n 1) r ∧ 1 ≤ r := by
 have hf := hz.f; have hr := hz.r; have he := hz.e; obtain ⟨b, h1, h2, h3⟩ := qP (R.map fun x => x.f1.f1.length) (1 + 3 * F.length) (fun x hx => by obtain ⟨y, hy, rfl⟩ := List.mem_map.1 hx; exact (hz.rs y hy).2.1) (by omega) (by rw [List.length_map]; omega); rw [List.length_map] at h3; obtain ⟨c, g1, g2, g3⟩ := rU (E.map fun x => x.f2.map fun p => p.f1.length) b (fun x hx => by
  obtain ⟨y, hy, rfl⟩ := List.mem_map.1 hx; exact ⟨by rw [List.length_map]; exact (hz.es y hy).1, fun z h => by obtain ⟨q, hq, rfl⟩ := List.mem_map.1 h; exact (hz.es y hy).2 q hq⟩) (by omega) (by rw [List.length_map]; omega)
 refine ⟨c, ?_, by omega⟩; simp only [dF.f, mkI]; exact Ev.bind (rp F.length 1 (by omega) (by omega)) (Ev.bind h1 g1)
open Classical in
theorem mG (a b : List ByteArray) (hn : a.length < 4611686018427387904) (hl : a.length = b.length) : ∀ (d i : Nat), i + d = a.length → Ev (fun k => bo.l0 k a b (i : Int)) (decide (a.drop i = b.drop i)) := by
 intro d; induction d with
 | zero =>
  intro i hi; refine Ev.step (fun k => bo.l0.eq_2 _ _ _ _) ?_; simp only [if_neg (show ¬ ((i : Int) < (a.length : Int)) by omega)]; exact iW (by rw [List.drop_eq_nil_of_le (by omega), List.drop_eq_nil_of_le (by omega)]) (Ev.now _)
 | succ d ih =>
  intro i hi; refine Ev.step (fun k => bo.l0.eq_2 _ _ _ _) ?_; simp only [if_pos (show ((i : Int) < (a.length : Int)) by omega), if_pos (show ((i : Int) < (b.length : Int)) by omega), if_pos (show 0 ≤ (i : Int) by omega), f5 a i (by omega), f5 b i (by omega), bY i (by omega), toList_inj]; by_cases h : a[i]'(by omega) = b[i]'(by omega)
  ·simp only [if_pos h]; refine cL ?_ (ih (i + 1) (by omega)); rw [b6 (a := a) (b := b) (j := i) (by omega) (by omega)]; exact ⟨fun h2 => ⟨h, h2⟩, fun h2 => h2.2⟩
  ·simp only [if_neg h]; refine cm (fun h2 => ?_) (Ev.now _); rw [b6 (a := a) (b := b) (j := i) (by omega) (by omega)] at h2; exact h h2.1
open Classical in
theorem mX (a b : List ByteArray) (hn : a.length < 4611686018427387904) : Ev (fun k => bo.f k a b) (decide (a = b)) := by
 simp only [bo.f]; by_cases hl : a.length = b.length
 ·simp only [if_pos (show (a.length : Int) = (b.length : Int) by omega)]; exact mG a b hn hl a.length 0 (by omega)
 ·simp only [if_neg (show ¬ (a.length : Int) = (b.length : Int) by omega)]; exact cm (fun h => hl (by rw [h])) (Ev.now _)
theorem lx (a : List ByteArray) (hn : a.length < 4611686018427387904) : Ev (fun k => bo.f k a a) true := by
 have := mX a a hn; rwa [decide_eq_true rfl] at this
noncomputable def dY (a : Int) : Nat → List ByteArray
 | 0 => []
 | n + 1 => MT a :: dY (a + 1) n
theorem ln (l : List ByteArray) (hn : l.length < 1152921504606846976) : ∀ (d i : Nat) (a : Int), i + d = l.length → 0 ≤ a → a + d < 4611686018427387904 → l.drop i = dY a d →
  Ev (fun k => bk.l0 k l a (i : Int)) (a + d) := by
 intro d; induction d with
 | zero =>
  intro i a hi ha hb hd; refine Ev.step (fun k => bk.l0.eq_2 _ _ _ _) ?_; simp only [if_neg (show ¬ ((i : Int) < (l.length : Int)) by omega)]; simpa using Ev.now a
 | succ d ih =>
  intro i a hi ha hb hd; refine Ev.step (fun k => bk.l0.eq_2 _ _ _ _) ?_; rw [cX l i (by omega)] at hd; simp only [dY, List.cons.injEq] at hd; simp only [if_pos (show ((i : Int) < (l.length : Int)) by omega), if_pos (show 0 ≤ (i : Int) by omega), bY i (by omega), f5 l i (by omega), hd.1, bC (x := a + 1) (by omega) (by omega)]; refine Ev.bind (dI a ha (by omega)) ?_; simp only [if_true]; have h := ih (i + 1) (a + 1) (by omega) (by omega) (by omega) hd.2; have e : a + 1 + (d : Int) = a + ((d + 1 : Nat) : Int) := by omega
  rw [← e]; exact h
theorem gB (a : Int) (n : Nat) : (dY a n).length = n := by
 induction n generalizing a with
 | zero => rfl
 | succ n ih => simp [dY, ih]
theorem kH (n : Nat) (hn : n < 1125899906842624) : Ev (fun k => bk.f k (dY 1 n) 1) (1 + (n : Int)) :=
 ln (dY 1 n) (by rw [gB]; omega) n 0 1 (by rw [gB]; omega) (by omega) (by omega) rfl
theorem kN : ∀ (d i : Nat) (l : List ByteArray) (a : Int), i + d = l.length → l.length < 1152921504606846976 → 0 ≤ a → a + d < 4611686018427387904 →
  Ev (fun k => bq.l0 k l a (i : Int)) (a + d, l.take i ++ dY a d) := by
 intro d; induction d with
 | zero =>
  intro i l a hi hn ha hb; refine Ev.step (fun k => bq.l0.eq_2 _ _ _ _) ?_; simp only [if_neg (show ¬ ((i : Int) < (l.length : Int)) by omega)]; have : (a + ((0 : Nat) : Int), l.take i ++ dY a 0) = (a, l) := by simp [dY, List.take_of_length_le (show l.length ≤ i by omega)]
  rw [this]; exact Ev.now _
 | succ d ih =>
  intro i l a hi hn ha hb; refine Ev.step (fun k => bq.l0.eq_2 _ _ _ _) ?_; simp only [if_pos (show ((i : Int) < (l.length : Int)) by omega), if_pos (show 0 ≤ (i : Int) by omega), bY i (by omega), bJ, bC (x := a + 1) (by omega) (by omega)]; refine Ev.bind (dI a ha (by omega)) ?_; have h := ih (i + 1) (l.set i (MT a)) (a + 1) (by simp; omega) (by simp; omega) (by omega) (by omega); rw [List.take_add_one, List.take_set_of_le (Nat.le_refl _), List.getElem?_set_self (by omega)] at h; have e2 : (a + 1 + (d : Int), l.take i ++ (some (MT a)).toList ++ dY (a + 1) d) = (a + ((d + 1 : Nat) : Int), l.take i ++ dY a (d + 1)) := by
   simp [dY]; omega
  rw [← e2]; exact h
theorem k8 (l : List ByteArray) (hn : l.length < 1125899906842624) : Ev (fun k => bq.f k l 1) (1 + (l.length : Int), dY 1 l.length) :=
 kN l.length 0 l 1 (by omega) (by omega) (by omega) (by omega)
theorem FnExactIndexTerms : bD.PureX := by
 intro F R E n f p hF hR hE hn _ _; have hm : maxLen = 9223372036854775807 := rfl; refine Ev.rounds (g := fun k => bD.f k F R E n f p) ?_; simp only [bD.f]; by_cases hg : (f.size : Int) > 1048576
 ·simp only [if_pos hg]; exact Ev.now _
 simp only [if_neg hg]; by_cases hg2 : (p.size : Int) > 1048576
 ·simp only [if_pos hg2]; exact Ev.now _
 simp only [if_neg hg2]; obtain ⟨r, hr, hq⟩ := oW F R E n ⟨by omega, fun x hx => by have := hF.2 x hx; unfold fo; have := this.1; omega⟩
  ⟨by omega, fun x hx => by
   obtain ⟨_, b, c, d⟩ := hR.2 x hx; exact ⟨b, c, fun y hy => by have := d y hy; unfold fy; exact ⟨by have := this.1; omega, by have := this.2; omega⟩⟩⟩
  ⟨by omega, fun x hx => by
   obtain ⟨a, b, c, d⟩ := hE.2 x hx; exact ⟨a, b, c, fun y hy => (d y hy).2.1⟩⟩
 refine Ev.bind hr ?_; rcases hq with hq | ⟨q0, q1⟩
 ·simp only [hq, if_pos (show (-1 : Int) < 0 by omega)]; exact Ev.now _
 simp only [if_neg (show ¬ r < 0 by omega)]; have hz := qk q1; have hi := ov F R E n q1; have hs := il hz n f p; have hd := ik hz n f p; have hc := nC hz n f p; obtain ⟨C, hK⟩ : ∃ C, gg (F.map ix) (R.map ko) (E.map fw) n f p = C := ⟨_, rfl⟩; rw [hK] at hs hd hc; obtain ⟨m, hM, h1⟩ := rF hz n; refine Ev.bind hi ?_; refine Ev.bind hs ?_; refine Ev.bind hd ?_; refine Ev.bind (lx _ (by omega)) ?_; refine Ev.bind (m6 hz n) ?_; refine Ev.bind hM ?_; refine Ev.bind (k8 _ (by omega)) ?_; refine Ev.bind (kH _ (by omega)) ?_; rw [if_pos ⟨rfl, rfl, by omega, by omega, rfl⟩]; exact Ev.now _
end Go.Proofs.YtnjjdojonflckaaGreatDoor.Pure
