/- The plain law of FnExactIndexOk: whatever the input, the printed function of this law answers true after enough rounds; conditions: only the sizes and kinds that the law's Pure states. -/
import Derived.Test.YtnjjdojonflckaaGreatDoorUSFnExactIndexOk
import Derived.Lib.IndexBytes
import Derived.Lib.SplitLaws
import Derived.Lib.AtoiAllCases
import Derived.Lib.ItoaNum
import Derived.Lib.Strings
namespace Go.Proofs.YtnjjdojonflckaaGreatDoor.Pure
open Go.RowKit Go.Proofs.YtnjjdojonflckaaGreatDoor.PFnExactIndexOk Go.Proofs.YtnjjdojonflckaaGreatDoorW.PrintWords Go.Proofs.YtnjjdojonflckaaGreatDoorW.PrintLast Go.Proofs.YtnjjdojonflckaaGreatDoorW.PrintMore
set_option linter.unusedVariables false
set_option linter.unusedSimpArgs false
def fu (x : dE) : Prop := x.f0.size ≤ 9223372036854775807 ∧ x.f1.size ≤ 9223372036854775807
def fg (x : dU) : Prop := x.f0.size ≤ 9223372036854775807
theorem jC (s : ByteArray) : s.toList = s.data.toList := by
 exact ByteArray.toList_eq s
theorem toList_inj {a b : ByteArray} : a.toList = b.toList ↔ a = b := by
 rw [jC, jC]; constructor
 ·intro h; exact ByteArray.ext (Array.toList_inj.1 h)
 ·rintro rfl; rfl
open Classical in
theorem nY (x y : S92) : dZ.f x.f0 x.f1 x.f2 y.f0 y.f1 y.f2 = some (decide (x = y)) := by
 obtain ⟨a0, a1, a2⟩ := x; obtain ⟨b0, b1, b2⟩ := y; simp only [dZ.f, toList_inj]; by_cases h0 : a0 = b0
 case neg => simp [h0]
 by_cases h1 : a1 = b1
 case neg => simp [h0, h1]
 by_cases h2 : a2 = b2
 case neg => simp [h0, h1, h2]
 simp [h0, h1, h2]
theorem en (l : List S92) (j : Nat) (h : j < l.length) : ar l (j : Int) = l[j] := by
 unfold ar; simp [List.getD_eq_getElem?_getD, List.getElem?_eq_getElem h]
theorem co {α : Type} {a b : List α} {j : Nat} (ha : j < a.length) (hb : j < b.length) : a.drop j = b.drop j ↔ a[j] = b[j] ∧ a.drop (j + 1) = b.drop (j + 1) := by
 rw [List.drop_eq_getElem_cons ha, List.drop_eq_getElem_cons hb, List.cons.injEq]
theorem cy {g : Nat → Option Bool} {p : Prop} [Decidable p] (h : ¬ p) (k : Ev g false) : Ev g (decide p) := by
 rw [decide_eq_false h]; exact k
theorem cL {g : Nat → Option Bool} {p q : Prop} [Decidable p] [Decidable q] (h : p ↔ q) (k : Ev g (decide p)) : Ev g (decide q) := by
 have : decide p = decide q := decide_eq_decide.2 h; rw [← this]; exact k
theorem jT {g : Nat → Option Bool} {p : Prop} [Decidable p] (h : p) (k : Ev g true) : Ev g (decide p) := by
 rw [decide_eq_true h]; exact k
theorem cN {x : Int} (h0 : -9223372036854775808 ≤ x) (h1 : x ≤ 9223372036854775807) : wrap64 x = x := by unfold wrap64; omega
theorem cg (j : Nat) (h : j < 9223372036854775807) : wrap64 ((j : Int) + 1) = ((j + 1 : Nat) : Int) := by rw [cN (by omega) (by omega)]; omega
open Classical in
theorem nQ (a b : List S92) (hn : a.length < 4611686018427387904) (hl : a.length = b.length) : ∀ (d i : Nat), i + d = a.length →
  Ev (fun k => aC.l0 k a b (i : Int)) (decide (a.drop i = b.drop i)) := by
 intro d; induction d with
 | zero =>
  intro i hi; refine Ev.step (fun k => aC.l0.eq_2 _ _ _ _) ?_; simp only [if_neg (show ¬ ((i : Int) < (a.length : Int)) by omega)]; rw [List.drop_of_length_le (by omega), List.drop_of_length_le (by omega)]; exact jT rfl (Ev.now _)
 | succ d ih =>
  intro i hi; refine Ev.step (fun k => aC.l0.eq_2 _ _ _ _) ?_; simp only [if_pos (show ((i : Int) < (a.length : Int)) by omega), if_pos (show 0 ≤ (i : Int) by omega), if_pos (show ((i : Int) < (b.length : Int)) by omega), cg i (by omega), en a i (by omega), en b i (by omega), nY, Option.bind_some, decide_eq_true_eq]; have hs := co (a := a) (b := b) (show i < a.length by omega) (show i < b.length by omega); by_cases h : a[i] = b[i]
  ·simp only [if_pos h]; exact cL (hs.trans ⟨fun h1 => h1.2, fun h1 => ⟨h, h1⟩⟩).symm (ih (i + 1) (by omega))
  ·simp only [if_neg h]; exact cy (fun h1 => h (hs.1 h1).1) (Ev.now _)
open Classical in
theorem nv (a b : List S92) (hn : a.length < 4611686018427387904) : Ev (fun k => aC.f k a b) (decide (a = b)) := by
 simp only [aC.f]; by_cases hl : a.length = b.length
 ·simp only [if_pos (show (a.length : Int) = (b.length : Int) by omega)]; exact nQ a b hn hl a.length 0 (by omega)
 ·simp only [if_neg (show ¬ (a.length : Int) = (b.length : Int) by omega)]; exact cy (fun h => hl (by rw [h])) (Ev.now _)
open Classical in
theorem lh (a : List S92) (hn : a.length < 4611686018427387904) : Ev (fun k => aC.f k a a) true := by
 have := nv a a hn; rwa [decide_eq_true rfl] at this
theorem pE (l : List S76) (j : Nat) (h : j < l.length) : ax l (j : Int) = l[j] := by
 unfold ax; simp [List.getD_eq_getElem?_getD, List.getElem?_eq_getElem h]
theorem rq (l : List S50) (j : Nat) (h : j < l.length) : bm l (j : Int) = l[j] := by
 unfold bm; simp [List.getD_eq_getElem?_getD, List.getElem?_eq_getElem h]
theorem nE (a : List Int) (hn : a.length ≤ 1048576) : Ev (fun k => bE.f k a a) true := by
 have main : ∀ (d i : Nat), i + d = a.length → Ev (fun k => bE.l0 k a a (i : Int)) true := by
  intro d; induction d with
  | zero =>
   intro i hi; refine Ev.step (fun k => bE.l0.eq_2 _ _ _ _) ?_; simp only [if_neg (show ¬ ((i : Int) < (a.length : Int)) by omega)]; exact Ev.now _
  | succ d ih =>
   intro i hi; refine Ev.step (fun k => bE.l0.eq_2 _ _ _ _) ?_; simp only [if_pos (show ((i : Int) < (a.length : Int)) by omega), if_pos (show 0 ≤ (i : Int) by omega), cg i (by omega), if_true]; exact ih (i + 1) (by omega)
 simp only [bE.f, if_true]; exact main a.length 0 (by omega)
def oI (x : S50) : Prop := x.f1.length ≤ 1048576
theorem m7 (x : S50) (hx : oI x) : Ev (fun k => dx.f k x.f0 x.f1 x.f0 x.f1) true := by
 simp only [dx.f, if_true]; refine Ev.bind (nE x.f1 hx) ?_; simp only [if_true]; exact Ev.now _
theorem mh (a : List S50) (hn : a.length ≤ 1048576) (hs : ∀ x ∈ a, oI x) : Ev (fun k => aM.f k a a) true := by
 have main : ∀ (d i : Nat), i + d = a.length → Ev (fun k => aM.l0 k a a (i : Int)) true := by
  intro d; induction d with
  | zero =>
   intro i hi; refine Ev.step (fun k => aM.l0.eq_2 _ _ _ _) ?_; simp only [if_neg (show ¬ ((i : Int) < (a.length : Int)) by omega)]; exact Ev.now _
  | succ d ih =>
   intro i hi; refine Ev.step (fun k => aM.l0.eq_2 _ _ _ _) ?_; simp only [if_pos (show ((i : Int) < (a.length : Int)) by omega), if_pos (show 0 ≤ (i : Int) by omega), cg i (by omega), rq a i (by omega)]; refine Ev.bind (m7 a[i] (hs _ (List.getElem_mem _))) ?_; simp only [if_true]; exact ih (i + 1) (by omega)
 simp only [aM.f, if_true]; exact main a.length 0 (by omega)
def oX (x : S76) : Prop := x.f2.length ≤ 1048576 ∧ ∀ p ∈ x.f2, oI p
theorem ms (x : S76) (hx : oX x) : Ev (fun k => dk.f k x.f0 x.f1 x.f2 x.f0 x.f1 x.f2) true := by
 simp only [dk.f, if_true]; refine Ev.bind (mh x.f2 hx.1 hx.2) ?_; simp only [if_true]; exact Ev.now _
theorem lp (a : List S76) (hn : a.length ≤ 1048576) (hs : ∀ x ∈ a, oX x) : Ev (fun k => aE.f k a a) true := by
 have main : ∀ (d i : Nat), i + d = a.length → Ev (fun k => aE.l0 k a a (i : Int)) true := by
  intro d; induction d with
  | zero =>
   intro i hi; refine Ev.step (fun k => aE.l0.eq_2 _ _ _ _) ?_; simp only [if_neg (show ¬ ((i : Int) < (a.length : Int)) by omega)]; exact Ev.now _
  | succ d ih =>
   intro i hi; refine Ev.step (fun k => aE.l0.eq_2 _ _ _ _) ?_; simp only [if_pos (show ((i : Int) < (a.length : Int)) by omega), if_pos (show 0 ≤ (i : Int) by omega), cg i (by omega), pE a i (by omega)]; refine Ev.bind (ms a[i] (hs _ (List.getElem_mem _))) ?_; simp only [if_true]; exact ih (i + 1) (by omega)
 simp only [aE.f, if_true]; exact main a.length 0 (by omega)
theorem rT (l : List S46) (j : Nat) (h : j < l.length) : ab l (j : Int) = l[j] := by
 unfold ab; simp [List.getD_eq_getElem?_getD, List.getElem?_eq_getElem h]
open Classical in
theorem pC (x y : S86) : eh.f x.f0 x.f1 y.f0 y.f1 = some (decide (x = y)) := by
 obtain ⟨a0, a1⟩ := x; obtain ⟨b0, b1⟩ := y; simp only [eh.f, toList_inj]; by_cases h0 : a0 = b0
 case neg => simp [h0]
 by_cases h1 : a1 = b1
 case neg => simp [h0, h1]
 simp [h0, h1]
theorem e7 (l : List S86) (j : Nat) (h : j < l.length) : ak l (j : Int) = l[j] := by
 unfold ak; simp [List.getD_eq_getElem?_getD, List.getElem?_eq_getElem h]
open Classical in
theorem om (a b : List S86) (hn : a.length < 4611686018427387904) (hl : a.length = b.length) : ∀ (d i : Nat), i + d = a.length →
  Ev (fun k => aN.l0 k a b (i : Int)) (decide (a.drop i = b.drop i)) := by
 intro d; induction d with
 | zero =>
  intro i hi; refine Ev.step (fun k => aN.l0.eq_2 _ _ _ _) ?_; simp only [if_neg (show ¬ ((i : Int) < (a.length : Int)) by omega)]; rw [List.drop_of_length_le (by omega), List.drop_of_length_le (by omega)]; exact jT rfl (Ev.now _)
 | succ d ih =>
  intro i hi; refine Ev.step (fun k => aN.l0.eq_2 _ _ _ _) ?_; simp only [if_pos (show ((i : Int) < (a.length : Int)) by omega), if_pos (show 0 ≤ (i : Int) by omega), if_pos (show ((i : Int) < (b.length : Int)) by omega), cg i (by omega), e7 a i (by omega), e7 b i (by omega), pC, Option.bind_some, decide_eq_true_eq]; have hs := co (a := a) (b := b) (show i < a.length by omega) (show i < b.length by omega); by_cases h : a[i] = b[i]
  ·simp only [if_pos h]; exact cL (hs.trans ⟨fun h1 => h1.2, fun h1 => ⟨h, h1⟩⟩).symm (ih (i + 1) (by omega))
  ·simp only [if_neg h]; exact cy (fun h1 => h (hs.1 h1).1) (Ev.now _)
open Classical in
theorem ov (a b : List S86) (hn : a.length < 4611686018427387904) : Ev (fun k => aN.f k a b) (decide (a = b)) := by
 simp only [aN.f]; by_cases hl : a.length = b.length
 ·simp only [if_pos (show (a.length : Int) = (b.length : Int) by omega)]; exact om a b hn hl a.length 0 (by omega)
 ·simp only [if_neg (show ¬ (a.length : Int) = (b.length : Int) by omega)]; exact cy (fun h => hl (by rw [h])) (Ev.now _)
open Classical in
theorem qI (k1 : ByteArray) (c1 : List S86) (k2 : ByteArray) (c2 : List S86) (hn : c1.length < 4611686018427387904) : Ev (fun k => dq.f k k1 c1 k2 c2) (decide (k1 = k2 ∧ c1 = c2)) := by
 simp only [dq.f, toList_inj]; by_cases h : k1 = k2
 ·simp only [if_pos h]; refine Ev.bind (ov c1 c2 hn) ?_; by_cases h2 : c1 = c2
  ·simp only [decide_eq_true h2, if_true]; exact jT ⟨h, h2⟩ (Ev.now _)
  ·simp only [decide_eq_false h2]; exact cy (fun h3 => h2 h3.2) (Ev.now _)
 ·simp only [if_neg h]; exact cy (fun h3 => h h3.1) (Ev.now _)
open Classical in
theorem oB (k1 : ByteArray) (c1 : List S86) (hn : c1.length < 4611686018427387904) : Ev (fun k => dq.f k k1 c1 k1 c1) true := by
 have := qI k1 c1 k1 c1 hn; rwa [decide_eq_true ⟨rfl, rfl⟩] at this
def rb (x : S46) : Prop := x.f1.f1.length ≤ 1048576
theorem oq (x : S46) (hx : rb x) : Ev (fun k => dL.f k x.f0 x.f1.f0 x.f1.f1 x.f0 x.f1.f0 x.f1.f1) true := by
 simp only [dL.f, if_true]; refine Ev.bind (oB x.f1.f0 x.f1.f1 (by unfold rb at hx; omega)) ?_; simp only [if_true]; exact Ev.now _
theorem nC (a : List S46) (hn : a.length ≤ 1048576) (hs : ∀ x ∈ a, rb x) : Ev (fun k => aZ.f k a a) true := by
 have main : ∀ (d i : Nat), i + d = a.length → Ev (fun k => aZ.l0 k a a (i : Int)) true := by
  intro d; induction d with
  | zero =>
   intro i hi; refine Ev.step (fun k => aZ.l0.eq_2 _ _ _ _) ?_; simp only [if_neg (show ¬ ((i : Int) < (a.length : Int)) by omega)]; exact Ev.now _
  | succ d ih =>
   intro i hi; refine Ev.step (fun k => aZ.l0.eq_2 _ _ _ _) ?_; simp only [if_pos (show ((i : Int) < (a.length : Int)) by omega), if_pos (show 0 ≤ (i : Int) by omega), cg i (by omega), rT a i (by omega)]; refine Ev.bind (oq a[i] (hs _ (List.getElem_mem _))) ?_; simp only [if_true]; exact ih (i + 1) (by omega)
 simp only [aZ.f, if_true]; exact main a.length 0 (by omega)
structure iT (F : List S92) (R : List S46) (E : List S76) : Prop where
 f : F.length ≤ 1048576
 fs : ∀ x ∈ F, x.f0.size ≤ 1048576
 r : R.length ≤ 1048576
 rs : ∀ x ∈ R, x.f1.f0.size ≤ 1048576 ∧ x.f1.f1.length ≤ 1048576 ∧ ∀ c ∈ x.f1.f1, c.f0.size ≤ 1048576 ∧ c.f1.size ≤ 1048576
 e : E.length ≤ 1048576
 es : ∀ x ∈ E, x.f2.length ≤ 1048576 ∧ ∀ p ∈ x.f2, p.f1.length ≤ 1048576
theorem mC {F : List S92} {R : List S46} {E : List S76} (h : iT F R E) (n : Int) : Ev (fun k => dj.f k F R E n F R E n) true := by
 simp only [dj.f]; refine Ev.bind (lh F (by have := h.f; omega)) ?_; simp only [if_true]; refine Ev.bind (nC R h.r (fun x hx => (h.rs x hx).2.1)) ?_; simp only [if_true]; refine Ev.bind (lp E h.e (fun x hx => h.es x hx)) ?_; simp only [if_true]; exact Ev.now _
def kn (x : dE) : S86 := ⟨x.f0, x.f1⟩
def jo (x : dU) : S92 := ⟨x.f0, x.f1, x.f2⟩
def fp (x : dU) : Prop := x.f0.size ≤ 1048576
def eG (x : dR) : Prop := x.f1.length ≤ 1048576
def eB (x : dQ) : Prop := x.f2.length ≤ 1048576 ∧ ∀ p ∈ x.f2, eG p
def fi (x : dE) : Prop := x.f0.size ≤ 1048576 ∧ x.f1.size ≤ 1048576
def fo (x : dS) : Prop := x.f1.f0.size ≤ 1048576 ∧ x.f1.f1.length ≤ 1048576 ∧ ∀ c ∈ x.f1.f1, fi c
def oG (F : List dU) (R : List dS) (E : List dQ) : Prop :=
 (F.length ≤ 1048576 ∧ ∀ x ∈ F, fp x) ∧ (R.length ≤ 1048576 ∧ ∀ x ∈ R, fo x) ∧ (E.length ≤ 1048576 ∧ ∀ x ∈ E, eB x)
def ie (x : dR) : S50 := ⟨x.f0, x.f1⟩
def fI (x : dQ) : S76 := ⟨x.f0, x.f1, x.f2.map ie⟩
def lx (x : dS) : S46 := ⟨x.f0, ⟨x.f1.f0, x.f1.f1.map kn⟩⟩
theorem pq {F : List dU} {R : List dS} {E : List dQ} (h : oG F R E) : iT (F.map jo) (R.map lx) (E.map fI) := by
 obtain ⟨⟨f1, f2⟩, ⟨r1, r2⟩, ⟨e1, e2⟩⟩ := h; refine ⟨by rw [List.length_map]; exact f1, fun x hx => ?_, by rw [List.length_map]; exact r1, fun x hx => ?_, by rw [List.length_map]; exact e1, fun x hx => ?_⟩
 ·obtain ⟨y, hy, rfl⟩ := List.mem_map.1 hx; exact f2 y hy
 ·obtain ⟨y, hy, rfl⟩ := List.mem_map.1 hx; obtain ⟨a, b, c⟩ := r2 y hy; refine ⟨a, by show (y.f1.f1.map kn).length ≤ _; rw [List.length_map]; exact b, fun z hz => ?_⟩; obtain ⟨u, hu, rfl⟩ := List.mem_map.1 hz; exact c u hu
 ·obtain ⟨y, hy, rfl⟩ := List.mem_map.1 hx; obtain ⟨a, b⟩ := e2 y hy; refine ⟨by show (y.f2.map ie).length ≤ _; rw [List.length_map]; exact a, fun z hz => ?_⟩; obtain ⟨u, hu, rfl⟩ := List.mem_map.1 hz; exact b u hu
theorem iV (l : List dU) (j : Nat) (h : j < l.length) : dn l (j : Int) = l[j] := by
 unfold dn; simp [List.getD_eq_getElem?_getD, List.getElem?_eq_getElem h]
theorem oM (x : dU) (a : Int) (hx : fg x) (h0 : 0 ≤ a) (h1 : a ≤ 1048576) : ∃ r, dJ.f x.f0 x.f1 x.f2 a = some r ∧ (r = -1 ∨ (0 ≤ r ∧ r ≤ a ∧ fp x)) := by
 unfold fg at hx
 unfold fp
 unfold dJ.f
 rw [cN (x := a - (x.f0.size : Int)) (by omega) (by omega)]; by_cases h20 : a - (x.f0.size : Int) < 0
 ·rw [if_pos h20]; exact ⟨_, rfl, .inl rfl⟩
 rw [if_neg h20]; exact ⟨_, rfl, .inr ⟨by omega, by omega, by omega⟩⟩
theorem d8 {α : Type} {l : List α} {j : Nat} {n : α} (h : j < l.length) : n ∈ l.drop j ↔ n = l[j] ∨ n ∈ l.drop (j + 1) := by
 rw [List.drop_eq_getElem_cons h, List.mem_cons]
theorem nB (l : List dU) (hl : l.length ≤ 1048576) (hg : ∀ x ∈ l, fg x) : ∀ (d i : Nat) (a : Int), i + d = l.length → 0 ≤ a → a ≤ 1048576 →
  ∃ r, Ev (fun k => bb.l0 k l a (i : Int)) r ∧ (r = -1 ∨ (0 ≤ r ∧ r ≤ a ∧ ∀ x ∈ l.drop i, fp x)) := by
 intro d; induction d with
 | zero =>
  intro i a hi h0 h1; refine ⟨a, Ev.step (fun k => bb.l0.eq_2 _ _ _ _) ?_, .inr ⟨h0, Int.le_refl _, fun x hx => ?_⟩⟩
  ·simp only [if_neg (show ¬ ((i : Int) < (l.length : Int)) by omega)]; exact Ev.now _
  ·rw [List.drop_of_length_le (by omega)] at hx; cases hx
 | succ d ih =>
  intro i a hi h0 h1; obtain ⟨r1, hr1, hc⟩ := oM l[i] a (hg _ (List.getElem_mem _)) h0 h1; rcases hc with hc | ⟨hc0, hc1, hc2⟩
  ·refine ⟨-1, Ev.step (fun k => bb.l0.eq_2 _ _ _ _) ?_, .inl rfl⟩; simp only [if_pos (show ((i : Int) < (l.length : Int)) by omega), if_pos (show 0 ≤ (i : Int) by omega), iV l i (by omega), hr1, Option.bind_some, hc]; exact Ev.now _
  ·obtain ⟨r, hr, hq⟩ := ih (i + 1) r1 (by omega) hc0 (by omega); refine ⟨r, Ev.step (fun k => bb.l0.eq_2 _ _ _ _) ?_, ?_⟩
   ·simp only [if_pos (show ((i : Int) < (l.length : Int)) by omega), if_pos (show 0 ≤ (i : Int) by omega), iV l i (by omega), hr1, Option.bind_some, if_neg (show ¬ r1 < 0 by omega), cg i (by omega)]; exact hr
   ·rcases hq with hq | ⟨q0, q1, q2⟩
    ·exact .inl hq
    ·refine .inr ⟨q0, by omega, fun x hx => ?_⟩; rcases (d8 (show i < l.length by omega)).1 hx with hx | hx
     ·rw [hx]; exact hc2
     ·exact q2 x hx
theorem np (l : List dU) (hl : l.length ≤ 9223372036854775807) (hg : ∀ x ∈ l, fg x) (a : Int) (h0 : 0 ≤ a) (h1 : a ≤ 1048576) :
  ∃ r, Ev (fun k => bb.f k l a) r ∧ (r = -1 ∨ (0 ≤ r ∧ r ≤ a ∧ l.length ≤ 1048576 ∧ ∀ x ∈ l, fp x)) := by
 simp only [bb.f, cN (x := a - (l.length : Int)) (by omega) (by omega)]; by_cases h2 : a - (l.length : Int) < 0
 ·simp only [if_pos h2]; exact ⟨-1, Ev.now _, .inl rfl⟩
 ·simp only [if_neg h2]; obtain ⟨r, hr, hq⟩ := nB l (by omega) hg l.length 0 (a - (l.length : Int)) (by omega) (by omega) (by omega); refine ⟨r, hr, ?_⟩; rcases hq with hq | ⟨q0, q1, q2⟩
  ·exact .inl hq
  ·exact .inr ⟨q0, by omega, by omega, q2⟩
theorem iL (l : List dQ) (j : Nat) (h : j < l.length) : cY l (j : Int) = l[j] := by
 unfold cY; simp [List.getD_eq_getElem?_getD, List.getElem?_eq_getElem h]
theorem kC (l : List dR) (j : Nat) (h : j < l.length) : dH l (j : Int) = l[j] := by
 unfold dH; simp [List.getD_eq_getElem?_getD, List.getElem?_eq_getElem h]
def go (x : dR) : Prop := x.f1.length ≤ 9223372036854775807
theorem pA (x : dR) (a : Int) (hx : go x) (h0 : 0 ≤ a) (h1 : a ≤ 1048576) : ∃ r, Ev (fun _ : Nat => dV.f x.f0 x.f1 a) r ∧ (r = -1 ∨ (0 ≤ r ∧ r ≤ a ∧ eG x)) := by
 unfold go at hx
 unfold eG
 simp only [dV.f, ef.f, cN (x := a - (x.f1.length : Int)) (by omega) (by omega)]; by_cases h2 : a - (x.f1.length : Int) < 0
 ·simp only [if_pos h2, Option.bind_some, if_pos (show (-1 : Int) < 0 by omega)]; exact ⟨-1, Ev.now _, .inl rfl⟩
 ·simp only [if_neg h2, Option.bind_some]; exact ⟨_, Ev.now _, .inr ⟨by omega, by omega, by omega⟩⟩
theorem oH (l : List dR) (hl : l.length ≤ 1048576) (hg : ∀ x ∈ l, go x) : ∀ (d i : Nat) (a : Int), i + d = l.length → 0 ≤ a → a ≤ 1048576 →
  ∃ r, Ev (fun k => bs.l0 k l a (i : Int)) r ∧ (r = -1 ∨ (0 ≤ r ∧ r ≤ a ∧ ∀ x ∈ l.drop i, eG x)) := by
 intro d; induction d with
 | zero =>
  intro i a hi h0 h1; refine ⟨a, Ev.step (fun k => bs.l0.eq_2 _ _ _ _) ?_, .inr ⟨h0, Int.le_refl _, fun x hx => ?_⟩⟩
  ·simp only [if_neg (show ¬ ((i : Int) < (l.length : Int)) by omega)]; exact Ev.now _
  ·rw [List.drop_of_length_le (by omega)] at hx; cases hx
 | succ d ih =>
  intro i a hi h0 h1; obtain ⟨r1, hr1, hc⟩ := pA l[i] a (hg _ (List.getElem_mem _)) h0 h1; rcases hc with hc | ⟨hc0, hc1, hc2⟩
  ·refine ⟨-1, Ev.step (fun k => bs.l0.eq_2 _ _ _ _) ?_, .inl rfl⟩; simp only [if_pos (show ((i : Int) < (l.length : Int)) by omega), if_pos (show 0 ≤ (i : Int) by omega), kC l i (by omega)]; refine Ev.bind hr1 ?_; simp only [if_pos (show r1 < 0 by omega)]; exact Ev.now _
  ·obtain ⟨r, hr, hq⟩ := ih (i + 1) r1 (by omega) hc0 (by omega); refine ⟨r, Ev.step (fun k => bs.l0.eq_2 _ _ _ _) ?_, ?_⟩
   ·simp only [if_pos (show ((i : Int) < (l.length : Int)) by omega), if_pos (show 0 ≤ (i : Int) by omega), kC l i (by omega), cg i (by omega)]; refine Ev.bind hr1 ?_; simp only [if_neg (show ¬ r1 < 0 by omega)]; exact hr
   ·rcases hq with hq | ⟨q0, q1, q2⟩
    ·exact .inl hq
    ·refine .inr ⟨q0, by omega, fun x hx => ?_⟩; rcases (d8 (show i < l.length by omega)).1 hx with hx | hx
     ·rw [hx]; exact hc2
     ·exact q2 x hx
theorem n0 (l : List dR) (hl : l.length ≤ 9223372036854775807) (hg : ∀ x ∈ l, go x) (a : Int) (h0 : 0 ≤ a) (h1 : a ≤ 1048576) :
  ∃ r, Ev (fun k => bs.f k l a) r ∧ (r = -1 ∨ (0 ≤ r ∧ r ≤ a ∧ l.length ≤ 1048576 ∧ ∀ x ∈ l, eG x)) := by
 simp only [bs.f, cN (x := a - (l.length : Int)) (by omega) (by omega)]; by_cases h2 : a - (l.length : Int) < 0
 ·simp only [if_pos h2]; exact ⟨-1, Ev.now _, .inl rfl⟩
 ·simp only [if_neg h2]; obtain ⟨r, hr, hq⟩ := oH l (by omega) hg l.length 0 (a - (l.length : Int)) (by omega) (by omega) (by omega); refine ⟨r, hr, ?_⟩; rcases hq with hq | ⟨q0, q1, q2⟩
  ·exact .inl hq
  ·exact .inr ⟨q0, by omega, by omega, q2⟩
def gI (x : dQ) : Prop := x.f0.size ≤ 9223372036854775807 ∧ x.f1.size ≤ 9223372036854775807 ∧ x.f2.length ≤ 9223372036854775807 ∧ ∀ p ∈ x.f2, go p
theorem ot (x : dQ) (a : Int) (hx : gI x) (h0 : 0 ≤ a) (h1 : a ≤ 1048576) : ∃ r, Ev (fun k => cZ.f k x.f0 x.f1 x.f2 a) r ∧ (r = -1 ∨ (0 ≤ r ∧ r ≤ a ∧ eB x)) := by
 obtain ⟨w0, w1, w2, w3⟩ := hx; simp only [cZ.f, cN (x := a - (x.f0.size : Int)) (by omega) (by omega)]; by_cases h2 : a - (x.f0.size : Int) < 0
 ·simp only [if_pos h2]; exact ⟨-1, Ev.now _, .inl rfl⟩
 simp only [if_neg h2, cN (x := a - (x.f0.size : Int) - (x.f1.size : Int)) (by omega) (by omega)]; by_cases h3 : a - (x.f0.size : Int) - (x.f1.size : Int) < 0
 ·simp only [if_pos h3]; exact ⟨-1, Ev.now _, .inl rfl⟩
 simp only [if_neg h3]; obtain ⟨r, hr, hq⟩ := n0 x.f2 w2 w3 (a - (x.f0.size : Int) - (x.f1.size : Int)) (by omega) (by omega); rcases hq with hq | ⟨q0, q1, q2, q3⟩
 ·exact ⟨-1, Ev.bind hr (by simp only [if_pos (show r < 0 by omega)]; exact Ev.now _), .inl rfl⟩
 ·exact ⟨r, Ev.bind hr (by simp only [if_neg (show ¬ r < 0 by omega)]; exact Ev.now _), .inr ⟨q0, by omega, q2, q3⟩⟩
theorem nG (l : List dQ) (hl : l.length ≤ 1048576) (hg : ∀ x ∈ l, gI x) : ∀ (d i : Nat) (a : Int), i + d = l.length → 0 ≤ a → a ≤ 1048576 →
  ∃ r, Ev (fun k => bf.l0 k l a (i : Int)) r ∧ (r = -1 ∨ (0 ≤ r ∧ r ≤ a ∧ ∀ x ∈ l.drop i, eB x)) := by
 intro d; induction d with
 | zero =>
  intro i a hi h0 h1; refine ⟨a, Ev.step (fun k => bf.l0.eq_2 _ _ _ _) ?_, .inr ⟨h0, Int.le_refl _, fun x hx => ?_⟩⟩
  ·simp only [if_neg (show ¬ ((i : Int) < (l.length : Int)) by omega)]; exact Ev.now _
  ·rw [List.drop_of_length_le (by omega)] at hx; cases hx
 | succ d ih =>
  intro i a hi h0 h1; obtain ⟨r1, hr1, hc⟩ := ot l[i] a (hg _ (List.getElem_mem _)) h0 h1; rcases hc with hc | ⟨hc0, hc1, hc2⟩
  ·refine ⟨-1, Ev.step (fun k => bf.l0.eq_2 _ _ _ _) ?_, .inl rfl⟩; simp only [if_pos (show ((i : Int) < (l.length : Int)) by omega), if_pos (show 0 ≤ (i : Int) by omega), iL l i (by omega)]; refine Ev.bind hr1 ?_; simp only [if_pos (show r1 < 0 by omega)]; exact Ev.now _
  ·obtain ⟨r, hr, hq⟩ := ih (i + 1) r1 (by omega) hc0 (by omega); refine ⟨r, Ev.step (fun k => bf.l0.eq_2 _ _ _ _) ?_, ?_⟩
   ·simp only [if_pos (show ((i : Int) < (l.length : Int)) by omega), if_pos (show 0 ≤ (i : Int) by omega), iL l i (by omega), cg i (by omega)]; refine Ev.bind hr1 ?_; simp only [if_neg (show ¬ r1 < 0 by omega)]; exact hr
   ·rcases hq with hq | ⟨q0, q1, q2⟩
    ·exact .inl hq
    ·refine .inr ⟨q0, by omega, fun x hx => ?_⟩; rcases (d8 (show i < l.length by omega)).1 hx with hx | hx
     ·rw [hx]; exact hc2
     ·exact q2 x hx
theorem nU (l : List dQ) (hl : l.length ≤ 9223372036854775807) (hg : ∀ x ∈ l, gI x) (a : Int) (h0 : 0 ≤ a) (h1 : a ≤ 1048576) :
  ∃ r, Ev (fun k => bf.f k l a) r ∧ (r = -1 ∨ (0 ≤ r ∧ r ≤ a ∧ l.length ≤ 1048576 ∧ ∀ x ∈ l, eB x)) := by
 simp only [bf.f, cN (x := a - (l.length : Int)) (by omega) (by omega)]; by_cases h2 : a - (l.length : Int) < 0
 ·simp only [if_pos h2]; exact ⟨-1, Ev.now _, .inl rfl⟩
 ·simp only [if_neg h2]; obtain ⟨r, hr, hq⟩ := nG l (by omega) hg l.length 0 (a - (l.length : Int)) (by omega) (by omega) (by omega); refine ⟨r, hr, ?_⟩; rcases hq with hq | ⟨q0, q1, q2⟩
  ·exact .inl hq
  ·exact .inr ⟨q0, by omega, by omega, q2⟩
theorem mE (l : List dS) (j : Nat) (h : j < l.length) : cX l (j : Int) = l[j] := by
 unfold cX; simp [List.getD_eq_getElem?_getD, List.getElem?_eq_getElem h]
theorem lb (l : List dE) (j : Nat) (h : j < l.length) : ea l (j : Int) = l[j] := by
 unfold ea; simp [List.getD_eq_getElem?_getD, List.getElem?_eq_getElem h]
theorem py (x : dE) (a : Int) (hx : fu x) (h0 : 0 ≤ a) (h1 : a ≤ 1048576) : ∃ r, dX.f x.f0 x.f1 a = some r ∧ (r = -1 ∨ (0 ≤ r ∧ r ≤ a ∧ fi x)) := by
 unfold fu at hx
 unfold fi
 unfold dX.f
 rw [cN (x := a - (x.f0.size : Int)) (by omega) (by omega)]; by_cases h20 : a - (x.f0.size : Int) < 0
 ·rw [if_pos h20]; exact ⟨_, rfl, .inl rfl⟩
 rw [if_neg h20]; rw [cN (x := a - (x.f0.size : Int) - (x.f1.size : Int)) (by omega) (by omega)]; by_cases h21 : a - (x.f0.size : Int) - (x.f1.size : Int) < 0
 ·rw [if_pos h21]; exact ⟨_, rfl, .inl rfl⟩
 rw [if_neg h21]; exact ⟨_, rfl, .inr ⟨by omega, by omega, by omega⟩⟩
theorem oE (l : List dE) (hl : l.length ≤ 1048576) (hg : ∀ x ∈ l, fu x) : ∀ (d i : Nat) (a : Int), i + d = l.length → 0 ≤ a → a ≤ 1048576 →
  ∃ r, Ev (fun k => bp.l0 k l a (i : Int)) r ∧ (r = -1 ∨ (0 ≤ r ∧ r ≤ a ∧ ∀ x ∈ l.drop i, fi x)) := by
 intro d; induction d with
 | zero =>
  intro i a hi h0 h1; refine ⟨a, Ev.step (fun k => bp.l0.eq_2 _ _ _ _) ?_, .inr ⟨h0, Int.le_refl _, fun x hx => ?_⟩⟩
  ·simp only [if_neg (show ¬ ((i : Int) < (l.length : Int)) by omega)]; exact Ev.now _
  ·rw [List.drop_of_length_le (by omega)] at hx; cases hx
 | succ d ih =>
  intro i a hi h0 h1; obtain ⟨r1, hr1, hc⟩ := py l[i] a (hg _ (List.getElem_mem _)) h0 h1; rcases hc with hc | ⟨hc0, hc1, hc2⟩
  ·refine ⟨-1, Ev.step (fun k => bp.l0.eq_2 _ _ _ _) ?_, .inl rfl⟩; simp only [if_pos (show ((i : Int) < (l.length : Int)) by omega), if_pos (show 0 ≤ (i : Int) by omega), lb l i (by omega), hr1, Option.bind_some, hc]; exact Ev.now _
  ·obtain ⟨r, hr, hq⟩ := ih (i + 1) r1 (by omega) hc0 (by omega); refine ⟨r, Ev.step (fun k => bp.l0.eq_2 _ _ _ _) ?_, ?_⟩
   ·simp only [if_pos (show ((i : Int) < (l.length : Int)) by omega), if_pos (show 0 ≤ (i : Int) by omega), lb l i (by omega), hr1, Option.bind_some, if_neg (show ¬ r1 < 0 by omega), cg i (by omega)]; exact hr
   ·rcases hq with hq | ⟨q0, q1, q2⟩
    ·exact .inl hq
    ·refine .inr ⟨q0, by omega, fun x hx => ?_⟩; rcases (d8 (show i < l.length by omega)).1 hx with hx | hx
     ·rw [hx]; exact hc2
     ·exact q2 x hx
theorem oy (l : List dE) (hl : l.length ≤ 9223372036854775807) (hg : ∀ x ∈ l, fu x) (a : Int) (h0 : 0 ≤ a) (h1 : a ≤ 1048576) :
  ∃ r, Ev (fun k => bp.f k l a) r ∧ (r = -1 ∨ (0 ≤ r ∧ r ≤ a ∧ l.length ≤ 1048576 ∧ ∀ x ∈ l, fi x)) := by
 simp only [bp.f, cN (x := a - (l.length : Int)) (by omega) (by omega)]; by_cases h2 : a - (l.length : Int) < 0
 ·simp only [if_pos h2]; exact ⟨-1, Ev.now _, .inl rfl⟩
 ·simp only [if_neg h2]; obtain ⟨r, hr, hq⟩ := oE l (by omega) hg l.length 0 (a - (l.length : Int)) (by omega) (by omega) (by omega); refine ⟨r, hr, ?_⟩; rcases hq with hq | ⟨q0, q1, q2⟩
  ·exact .inl hq
  ·exact .inr ⟨q0, by omega, by omega, q2⟩
theorem rh (key : ByteArray) (l : List dE) (hk : key.size ≤ 9223372036854775807) (hl : l.length ≤ 9223372036854775807) (hg : ∀ x ∈ l, fu x) (a : Int) (h0 : 0 ≤ a) (h1 : a ≤ 1048576) :
  ∃ r, Ev (fun k => dD.f k key l a) r ∧ (r = -1 ∨ (0 ≤ r ∧ r ≤ a ∧ key.size ≤ 1048576 ∧ l.length ≤ 1048576 ∧ ∀ x ∈ l, fi x)) := by
 simp only [dD.f, cN (x := a - (key.size : Int)) (by omega) (by omega)]; by_cases h2 : a - (key.size : Int) < 0
 ·simp only [if_pos h2]; exact ⟨-1, Ev.now _, .inl rfl⟩
 ·simp only [if_neg h2]; obtain ⟨r, hr, hq⟩ := oy l hl hg (a - (key.size : Int)) (by omega) (by omega); rcases hq with hq | ⟨q0, q1, q2, q3⟩
  ·refine ⟨-1, Ev.bind hr ?_, .inl rfl⟩; simp only [hq, if_pos (show (-1 : Int) < 0 by omega)]; exact Ev.now _
  ·refine ⟨r, Ev.bind hr ?_, .inr ⟨q0, by omega, by omega, q2, q3⟩⟩; simp only [if_neg (show ¬ r < 0 by omega)]; exact Ev.now _
def jX (x : dS) : Prop := x.f1.f0.size ≤ 9223372036854775807 ∧ x.f1.f1.length ≤ 9223372036854775807 ∧ ∀ c ∈ x.f1.f1, fu c
theorem qJ (x : dS) (a : Int) (hx : jX x) (h0 : 0 ≤ a) (h1 : a ≤ 1048576) : ∃ r, Ev (fun k => dC.f k x.f0 x.f1.f0 x.f1.f1 a) r ∧ (r = -1 ∨ (0 ≤ r ∧ r ≤ a ∧ fo x)) := by
 obtain ⟨w0, w1, w2⟩ := hx; simp only [dC.f]; obtain ⟨r, hr, hq⟩ := rh x.f1.f0 x.f1.f1 w0 w1 w2 a h0 h1; rcases hq with hq | ⟨q0, q1, q2, q3, q4⟩
 ·exact ⟨-1, Ev.bind hr (by simp only [if_pos (show r < 0 by omega)]; exact Ev.now _), .inl rfl⟩
 ·exact ⟨r, Ev.bind hr (by simp only [if_neg (show ¬ r < 0 by omega)]; exact Ev.now _), .inr ⟨q0, q1, q2, q3, q4⟩⟩
theorem qd (l : List dS) (hl : l.length ≤ 1048576) (hg : ∀ x ∈ l, jX x) : ∀ (d i : Nat) (a : Int), i + d = l.length → 0 ≤ a → a ≤ 1048576 →
  ∃ r, Ev (fun k => bx.l0 k l a (i : Int)) r ∧ (r = -1 ∨ (0 ≤ r ∧ r ≤ a ∧ ∀ x ∈ l.drop i, fo x)) := by
 intro d; induction d with
 | zero =>
  intro i a hi h0 h1; refine ⟨a, Ev.step (fun k => bx.l0.eq_2 _ _ _ _) ?_, .inr ⟨h0, Int.le_refl _, fun x hx => ?_⟩⟩
  ·simp only [if_neg (show ¬ ((i : Int) < (l.length : Int)) by omega)]; exact Ev.now _
  ·rw [List.drop_of_length_le (by omega)] at hx; cases hx
 | succ d ih =>
  intro i a hi h0 h1; obtain ⟨r1, hr1, hc⟩ := qJ l[i] a (hg _ (List.getElem_mem _)) h0 h1; rcases hc with hc | ⟨hc0, hc1, hc2⟩
  ·refine ⟨-1, Ev.step (fun k => bx.l0.eq_2 _ _ _ _) ?_, .inl rfl⟩; simp only [if_pos (show ((i : Int) < (l.length : Int)) by omega), if_pos (show 0 ≤ (i : Int) by omega), mE l i (by omega)]; refine Ev.bind hr1 ?_; simp only [if_pos (show r1 < 0 by omega)]; exact Ev.now _
  ·obtain ⟨r, hr, hq⟩ := ih (i + 1) r1 (by omega) hc0 (by omega); refine ⟨r, Ev.step (fun k => bx.l0.eq_2 _ _ _ _) ?_, ?_⟩
   ·simp only [if_pos (show ((i : Int) < (l.length : Int)) by omega), if_pos (show 0 ≤ (i : Int) by omega), mE l i (by omega), cg i (by omega)]; refine Ev.bind hr1 ?_; simp only [if_neg (show ¬ r1 < 0 by omega)]; exact hr
   ·rcases hq with hq | ⟨q0, q1, q2⟩
    ·exact .inl hq
    ·refine .inr ⟨q0, by omega, fun x hx => ?_⟩; rcases (d8 (show i < l.length by omega)).1 hx with hx | hx
     ·rw [hx]; exact hc2
     ·exact q2 x hx
theorem pX (l : List dS) (hl : l.length ≤ 9223372036854775807) (hg : ∀ x ∈ l, jX x) (a : Int) (h0 : 0 ≤ a) (h1 : a ≤ 1048576) :
  ∃ r, Ev (fun k => bx.f k l a) r ∧ (r = -1 ∨ (0 ≤ r ∧ r ≤ a ∧ l.length ≤ 1048576 ∧ ∀ x ∈ l, fo x)) := by
 simp only [bx.f, cN (x := a - (l.length : Int)) (by omega) (by omega)]; by_cases h2 : a - (l.length : Int) < 0
 ·simp only [if_pos h2]; exact ⟨-1, Ev.now _, .inl rfl⟩
 ·simp only [if_neg h2]; obtain ⟨r, hr, hq⟩ := qd l (by omega) hg l.length 0 (a - (l.length : Int)) (by omega) (by omega) (by omega); refine ⟨r, hr, ?_⟩; rcases hq with hq | ⟨q0, q1, q2⟩
  ·exact .inl hq
  ·exact .inr ⟨q0, by omega, by omega, q2⟩
theorem oK (F : List dU) (R : List dS) (E : List dQ) (n : Int) (hF : F.length ≤ 9223372036854775807 ∧ ∀ x ∈ F, fg x) (hR : R.length ≤ 9223372036854775807 ∧ ∀ x ∈ R, jX x) (hE : E.length ≤ 9223372036854775807 ∧ ∀ x ∈ E, gI x) :
  ∃ r, Ev (fun k => cM.f k F R E n 1048576) r ∧ (r = -1 ∨ (0 ≤ r ∧ oG F R E)) := by
 simp only [cM.f]; obtain ⟨r0, h0, q0⟩ := np F hF.1 hF.2 1048576 (by omega) (by omega); rcases q0 with q0 | ⟨a0, a1, a2, a3⟩
 ·exact ⟨-1, Ev.bind h0 (by simp only [if_pos (show r0 < 0 by omega)]; exact Ev.now _), .inl rfl⟩
 obtain ⟨r1, h1, q1⟩ := pX R hR.1 hR.2 r0 a0 (by omega); rcases q1 with q1 | ⟨b0, b1, b2, b3⟩
 ·refine ⟨-1, Ev.bind h0 ?_, .inl rfl⟩; simp only [if_neg (show ¬ r0 < 0 by omega)]; exact Ev.bind h1 (by simp only [if_pos (show r1 < 0 by omega)]; exact Ev.now _)
 obtain ⟨r2, h2, q2⟩ := nU E hE.1 hE.2 r1 b0 (by omega); rcases q2 with q2 | ⟨c0, c1, c2, c3⟩
 ·refine ⟨-1, Ev.bind h0 ?_, .inl rfl⟩; simp only [if_neg (show ¬ r0 < 0 by omega)]; refine Ev.bind h1 ?_; simp only [if_neg (show ¬ r1 < 0 by omega)]; exact Ev.bind h2 (by simp only [if_pos (show r2 < 0 by omega)]; exact Ev.now _)
 ·refine ⟨r2, Ev.bind h0 ?_, .inr ⟨c0, ⟨a2, a3⟩, ⟨b2, b3⟩, ⟨c2, c3⟩⟩⟩; simp only [if_neg (show ¬ r0 < 0 by omega)]; refine Ev.bind h1 ?_; simp only [if_neg (show ¬ r1 < 0 by omega)]; exact Ev.bind h2 (by simp only [if_neg (show ¬ r2 < 0 by omega)]; exact Ev.now _)
theorem d7 {α : Type} (l m : List α) (i : Nat) (v : α) (hl : i < l.length) (hm : i < m.length) (hv : m[i] = v) (h : l.take i = m.take i) : (l.set i v).take (i + 1) = m.take (i + 1) := by
 rw [List.take_add_one, List.take_add_one, List.take_set_of_le (Nat.le_refl _), h]; congr 1
 rw [List.getElem?_set_self hl, List.getElem?_eq_getElem hm, hv]
theorem bY (i : Nat) : ((i : Int)).toNat = i := by simp
theorem nw (l : List dU) (hn : l.length ≤ 1048576) : ∀ (d i : Nat) (acc : List S92), i + d = l.length → acc.length = l.length → acc.take i = (l.map jo).take i →
  Ev (fun k => bl.l0 k l acc (i : Int)) (l.map jo) := by
 intro d; induction d with
 | zero =>
  intro i acc hi hl ht; refine Ev.step (fun k => bl.l0.eq_2 _ _ _ _) ?_; simp only [if_neg (show ¬ ((i : Int) < (l.length : Int)) by omega)]; have : acc = l.map jo := by rw [List.take_of_length_le (by omega), List.take_of_length_le (by rw [List.length_map]; omega)] at ht; exact ht
  rw [this]; exact Ev.now _
 | succ d ih =>
  intro i acc hi hl ht; refine Ev.step (fun k => bl.l0.eq_2 _ _ _ _) ?_; simp only [if_pos (show ((i : Int) < (l.length : Int)) by omega), if_pos (show 0 ≤ (i : Int) by omega), ek.f, Option.bind_some, if_pos (show ((i : Int) < (acc.length : Int)) by omega), cg i (by omega), bY, iV l i (by omega)]; exact ih (i + 1) _ (by omega) (by simp [hl]) (d7 _ _ _ _ (by omega) (by rw [List.length_map]; omega) (by rw [List.getElem_map]; rfl) ht)
theorem na (l : List dU) (hn : l.length ≤ 1048576) : Ev (fun k => bl.f k l) (l.map jo) := by
 simp only [bl.f, if_pos (show 0 ≤ (l.length : Int) by omega), bY]; refine Ev.congr (f := fun k => bl.l0 k l (List.replicate l.length z92) 0) (fun k => if_pos (by omega)) ?_; exact nw l hn l.length 0 _ (by omega) (by simp) rfl
theorem iZ (l : List Int) (j : Nat) (h : j < l.length) : rd l (j : Int) = l[j] := by
 unfold rd; simp [List.getD_eq_getElem?_getD, List.getElem?_eq_getElem h]
theorem oL (l : List Int) (hn : l.length ≤ 1048576) : Ev (fun k => bI.f k l) l := by
 have main : ∀ (d i : Nat) (acc : List Int), i + d = l.length → acc.length = l.length → acc.take i = l.take i → Ev (fun k => bI.l0 k l acc (i : Int)) l := by
  intro d; induction d with
  | zero =>
   intro i acc hi hl ht; refine Ev.step (fun k => bI.l0.eq_2 _ _ _ _) ?_; simp only [if_neg (show ¬ ((i : Int) < (l.length : Int)) by omega)]; have : acc = l := by rw [List.take_of_length_le (by omega), List.take_of_length_le (by omega)] at ht; exact ht
   rw [this]; exact Ev.now _
  | succ d ih =>
   intro i acc hi hl ht; refine Ev.step (fun k => bI.l0.eq_2 _ _ _ _) ?_; simp only [if_pos (show ((i : Int) < (l.length : Int)) by omega), if_pos (show 0 ≤ (i : Int) by omega), if_pos (show ((i : Int) < (acc.length : Int)) by omega), cg i (by omega), bY, iZ l i (by omega)]; exact ih (i + 1) _ (by omega) (by simp [hl]) (d7 _ _ _ _ (by omega) (by omega) rfl ht)
 simp only [bI.f, if_pos (show 0 ≤ (l.length : Int) by omega), bY]; refine Ev.congr (f := fun k => bI.l0 k l (List.replicate l.length 0) 0) (fun k => if_pos (by omega)) ?_; exact main l.length 0 _ (by omega) (by simp) rfl
theorem pL (x : dR) (hx : eG x) : Ev (fun k => dw.f k x.f0 x.f1) ((ie x).f0, (ie x).f1) := by
 simp only [dw.f]; exact Ev.bind (oL x.f1 hx) (Ev.now _)
theorem n7 (l : List dR) (hn : l.length ≤ 1048576) (hs : ∀ x ∈ l, eG x) : ∀ (d i : Nat) (acc : List S50), i + d = l.length → acc.length = l.length → acc.take i = (l.map ie).take i →
  Ev (fun k => bv.l0 k l acc (i : Int)) (l.map ie) := by
 intro d; induction d with
 | zero =>
  intro i acc hi hl ht; refine Ev.step (fun k => bv.l0.eq_2 _ _ _ _) ?_; simp only [if_neg (show ¬ ((i : Int) < (l.length : Int)) by omega)]; have : acc = l.map ie := by rw [List.take_of_length_le (by omega), List.take_of_length_le (by rw [List.length_map]; omega)] at ht; exact ht
  rw [this]; exact Ev.now _
 | succ d ih =>
  intro i acc hi hl ht; refine Ev.step (fun k => bv.l0.eq_2 _ _ _ _) ?_; simp only [if_pos (show ((i : Int) < (l.length : Int)) by omega), if_pos (show 0 ≤ (i : Int) by omega), cg i (by omega), bY, kC l i (by omega)]; refine Ev.bind (pL l[i] (hs _ (List.getElem_mem _))) ?_; simp only [if_pos (show ((i : Int) < (acc.length : Int)) by omega)]; exact ih (i + 1) _ (by omega) (by simp [hl]) (d7 _ _ _ _ (by omega) (by rw [List.length_map]; omega) (by simp [ie]) ht)
theorem ob (l : List dR) (hn : l.length ≤ 1048576) (hs : ∀ x ∈ l, eG x) : Ev (fun k => bv.f k l) (l.map ie) := by
 simp only [bv.f, if_pos (show 0 ≤ (l.length : Int) by omega), bY]; refine Ev.congr (f := fun k => bv.l0 k l (List.replicate l.length z50) 0) (fun k => if_pos (by omega)) ?_; exact n7 l hn hs l.length 0 _ (by omega) (by simp) rfl
theorem n5 (x : dQ) (hx : eB x) : Ev (fun k => di.f k x.f0 x.f1 x.f2) ((fI x).f0, (fI x).f1, (fI x).f2) := by
 simp only [di.f]; exact Ev.bind (ob x.f2 hx.1 hx.2) (Ev.now _)
theorem nR (l : List dQ) (hn : l.length ≤ 1048576) (hs : ∀ x ∈ l, eB x) : ∀ (d i : Nat) (acc : List S76), i + d = l.length → acc.length = l.length → acc.take i = (l.map fI).take i →
  Ev (fun k => bk.l0 k l acc (i : Int)) (l.map fI) := by
 intro d; induction d with
 | zero =>
  intro i acc hi hl ht; refine Ev.step (fun k => bk.l0.eq_2 _ _ _ _) ?_; simp only [if_neg (show ¬ ((i : Int) < (l.length : Int)) by omega)]; have : acc = l.map fI := by rw [List.take_of_length_le (by omega), List.take_of_length_le (by rw [List.length_map]; omega)] at ht; exact ht
  rw [this]; exact Ev.now _
 | succ d ih =>
  intro i acc hi hl ht; refine Ev.step (fun k => bk.l0.eq_2 _ _ _ _) ?_; simp only [if_pos (show ((i : Int) < (l.length : Int)) by omega), if_pos (show 0 ≤ (i : Int) by omega), cg i (by omega), bY, iL l i (by omega)]; refine Ev.bind (n5 l[i] (hs _ (List.getElem_mem _))) ?_; simp only [if_pos (show ((i : Int) < (acc.length : Int)) by omega)]; exact ih (i + 1) _ (by omega) (by simp [hl]) (d7 _ _ _ _ (by omega) (by rw [List.length_map]; omega) (by simp [fI]) ht)
theorem nT (l : List dQ) (hn : l.length ≤ 1048576) (hs : ∀ x ∈ l, eB x) : Ev (fun k => bk.f k l) (l.map fI) := by
 simp only [bk.f, if_pos (show 0 ≤ (l.length : Int) by omega), bY]; refine Ev.congr (f := fun k => bk.l0 k l (List.replicate l.length z76) 0) (fun k => if_pos (by omega)) ?_; exact nR l hn hs l.length 0 _ (by omega) (by simp) rfl
theorem n8 (l : List dE) (hn : l.length ≤ 1048576) : ∀ (d i : Nat) (acc : List S86), i + d = l.length → acc.length = l.length → acc.take i = (l.map kn).take i →
  Ev (fun k => bu.l0 k l acc (i : Int)) (l.map kn) := by
 intro d; induction d with
 | zero =>
  intro i acc hi hl ht; refine Ev.step (fun k => bu.l0.eq_2 _ _ _ _) ?_; simp only [if_neg (show ¬ ((i : Int) < (l.length : Int)) by omega)]; have : acc = l.map kn := by rw [List.take_of_length_le (by omega), List.take_of_length_le (by rw [List.length_map]; omega)] at ht; exact ht
  rw [this]; exact Ev.now _
 | succ d ih =>
  intro i acc hi hl ht; refine Ev.step (fun k => bu.l0.eq_2 _ _ _ _) ?_; simp only [if_pos (show ((i : Int) < (l.length : Int)) by omega), if_pos (show 0 ≤ (i : Int) by omega), eE.f, Option.bind_some, if_pos (show ((i : Int) < (acc.length : Int)) by omega), cg i (by omega), bY, lb l i (by omega)]; exact ih (i + 1) _ (by omega) (by simp [hl]) (d7 _ _ _ _ (by omega) (by rw [List.length_map]; omega) (by rw [List.getElem_map]; rfl) ht)
theorem oJ (l : List dE) (hn : l.length ≤ 1048576) : Ev (fun k => bu.f k l) (l.map kn) := by
 simp only [bu.f, if_pos (show 0 ≤ (l.length : Int) by omega), bY]; refine Ev.congr (f := fun k => bu.l0 k l (List.replicate l.length z86) 0) (fun k => if_pos (by omega)) ?_; exact n8 l hn l.length 0 _ (by omega) (by simp) rfl
theorem qz (key : ByteArray) (l : List dE) (hn : l.length ≤ 1048576) : Ev (fun k => dP.f k key l) (key, l.map kn) := by
 simp only [dP.f]; exact Ev.bind (oJ l hn) (Ev.now _)
theorem qE (x : dS) (hx : fo x) : Ev (fun k => dN.f k x.f0 x.f1.f0 x.f1.f1) ((lx x).f0, (lx x).f1.f0, (lx x).f1.f1) := by
 simp only [dN.f]; exact Ev.bind (qz x.f1.f0 x.f1.f1 hx.2.1) (Ev.now _)
theorem qg (l : List dS) (hn : l.length ≤ 1048576) (hs : ∀ x ∈ l, fo x) : ∀ (d i : Nat) (acc : List S46), i + d = l.length → acc.length = l.length → acc.take i = (l.map lx).take i →
  Ev (fun k => bD.l0 k l acc (i : Int)) (l.map lx) := by
 intro d; induction d with
 | zero =>
  intro i acc hi hl ht; refine Ev.step (fun k => bD.l0.eq_2 _ _ _ _) ?_; simp only [if_neg (show ¬ ((i : Int) < (l.length : Int)) by omega)]; have : acc = l.map lx := by rw [List.take_of_length_le (by omega), List.take_of_length_le (by rw [List.length_map]; omega)] at ht; exact ht
  rw [this]; exact Ev.now _
 | succ d ih =>
  intro i acc hi hl ht; refine Ev.step (fun k => bD.l0.eq_2 _ _ _ _) ?_; simp only [if_pos (show ((i : Int) < (l.length : Int)) by omega), if_pos (show 0 ≤ (i : Int) by omega), cg i (by omega), bY, mE l i (by omega)]; refine Ev.bind (qE l[i] (hs _ (List.getElem_mem _))) ?_; simp only [if_pos (show ((i : Int) < (acc.length : Int)) by omega)]; exact ih (i + 1) _ (by omega) (by simp [hl]) (d7 _ _ _ _ (by omega) (by rw [List.length_map]; omega) (by simp [lx]) ht)
theorem qf (l : List dS) (hn : l.length ≤ 1048576) (hs : ∀ x ∈ l, fo x) : Ev (fun k => bD.f k l) (l.map lx) := by
 simp only [bD.f, if_pos (show 0 ≤ (l.length : Int) by omega), bY]; refine Ev.congr (f := fun k => bD.l0 k l (List.replicate l.length z46) 0) (fun k => if_pos (by omega)) ?_; exact qg l hn hs l.length 0 _ (by omega) (by simp) rfl
theorem g9 (F : List dU) (R : List dS) (E : List dQ) (n : Int) (h : oG F R E) : Ev (fun k => cd.f k F R E n) (F.map jo, R.map lx, E.map fI, n) := by
 simp only [cd.f]; refine Ev.bind (na F h.1.1) ?_; refine Ev.bind (qf R h.2.1.1 h.2.1.2) ?_; refine Ev.bind (nT E h.2.2.1 h.2.2.2) ?_; exact Ev.now _
def fK (f : S92) : Prop := (f.f1 = 1 ∧ 1 ≤ f.f2 ∧ f.f2 ≤ 9) ∨ (2 ≤ f.f1 ∧ f.f1 ≤ 3 ∧ f.f2 = 0)
def lm (c : Int) : Prop := 48 ≤ c ∧ c ≤ 57
instance (c : Int) : Decidable (lm c) := by unfold lm; infer_instance
def ky (c : Int) : Prop := 97 ≤ c ∧ c ≤ 122
instance (c : Int) : Decidable (ky c) := by unfold ky; infer_instance
def dK (l : List Int) (j : Nat) : Prop := (∀ (i : Nat) (h : i < l.length), j ≤ i → ky l[i] ∨ (0 < i ∧ lm l[i])) ∧ 1 ≤ l.length ∧ l.length ≤ 8
def dB (l : List S92) (j : Nat) : Prop := (∀ (i : Nat) (h : i < l.length), j ≤ i → dK (au l[i].f0) 0 ∧ fK l[i] ∧ ∀ m (hm : m < i), l[m].f0 ≠ l[i].f0) ∧ 1 ≤ l.length ∧ l.length ≤ 4
open Classical in
noncomputable def eW (l : List S92) : Bool := decide (dB l 0)
theorem bA {g : Nat → Option Bool} {p : Prop} {ip : Decidable p} (h : ¬ p) (k : Ev g false) : Ev g (@decide p ip) := by
 rw [decide_eq_false h]; exact k
theorem lV {α : Type} {g : Nat → Option α} {a b : α} (h : Ev g a) (h' : Ev g b) : a = b := by
 obtain ⟨K, h⟩ := h; obtain ⟨K', h'⟩ := h'; exact Option.some.inj ((h (max K K') (by omega)).symm.trans (h' (max K K') (by omega)))
theorem wpred (j : Nat) (h : j < 9223372036854775807) : wrap64 (((j + 1 : Nat) : Int) - 1) = (j : Int) := by rw [cN (by omega) (by omega)]; omega
open Classical in
noncomputable def eF (l : List Int) : Bool := decide (dK l 0)
def oZ (a b : ByteArray) : Prop := Op.bytesLess a.toList b.toList = true
def ry (c : Int) : Prop := 32 ≤ c ∧ c ≤ 126
open Classical in
noncomputable def er (s : ByteArray) (m : Int) : Bool := decide ((∀ c ∈ au s, ry c) ∧ (s.size : Int) ≤ m)
def fN (key : ByteArray) (l : List S86) (j : Nat) : Prop := (∀ (i : Nat) (h : i < l.length), j ≤ i → eF (au l[i].f0) = true ∧ er l[i].f1 60 = true ∧ ∀ h0 : 0 < i, oZ (l[i - 1]'(by omega)).f0 l[i].f0) ∧ eF (au key) = true ∧ l.length ≤ 4
open Classical in
noncomputable def jw (key : ByteArray) (l : List S86) : Bool := decide (fN key l 0)
def fY (l : List ByteArray) : Prop := ∀ x ∈ l, eF (au x) = true
def eq (c : UInt8) : Nat → List UInt8 → List UInt8 → List (List UInt8)
 | _, acc, [] => [acc]
 | 0, acc, x :: xs => [acc ++ x :: xs]
 | n + 1, acc, x :: xs => if x = c then acc :: eq c n [] xs else eq c (n + 1) (acc ++ [x]) xs
def mkT (l : List UInt8) : ByteArray := ⟨l.toArray⟩
def ec (c : UInt8) (s : ByteArray) : List ByteArray := (eq c (s.data.toList.count c) [] s.data.toList).map mkT
def kc (s : ByteArray) : Prop := fY (ec 44 s) ∧ (ec 44 s).length ≤ 4
def hJ (s : ByteArray) : Int × Bool := match Lib.atoiAll s.data.toList with
 | .ok n => if -999999999 ≤ n ∧ n ≤ 999999999 ∧ Lib.itoa n = s.data.toList then (n, true) else (0, false)
 | _ => (0, false)
def js (kind : Int) (s : ByteArray) : Prop := kind = 1 ∨ (kind = 2 ∧ (hJ s).2 = true) ∨ (kind = 3 ∧ kc s)
def em (n : ByteArray) : List S92 → ByteArray × Int × Int
 | [] => (⟨#[]⟩, 0, 0)
 | f :: F => if f.f0 = n then (f.f0, f.f1, f.f2) else em n F
def eo (F : List S92) (n : ByteArray) : Int := (em n F).2.1
def iY (F : List S92) (key : ByteArray) (l : List S86) : Prop := eW F = true ∧ jw key l = true ∧ ∀ c ∈ l, js (eo F c.f0) c.f1
open Classical in
noncomputable def gj (F : List S92) (key : ByteArray) (l : List S86) : Bool := decide (iY F key l)
theorem cS {g : Nat → Option Bool} {p q : Prop} {ip : Decidable p} {iq : Decidable q} (h : p ↔ q) (k : Ev g (@decide p ip)) : Ev g (@decide q iq) := by
 have e : @decide p ip = @decide q iq := decide_eq_decide.2 h; rw [← e]; exact k
theorem ik {key : ByteArray} {l : List S86} {j : Nat} (hj : l.length ≤ j) : fN key l j ↔ eF (au key) = true ∧ l.length ≤ 4 := ⟨fun h => h.2, fun h => ⟨fun i hi hji => by omega, h⟩⟩
theorem gQ {key : ByteArray} {l : List S86} {j : Nat} (hj : j < l.length) : fN key l j ↔ (eF (au l[j].f0) = true ∧ er l[j].f1 60 = true ∧ ∀ h0 : 0 < j, oZ (l[j - 1]'(by omega)).f0 l[j].f0) ∧ fN key l (j + 1) := by
 constructor
 ·rintro ⟨h, h2⟩; exact ⟨h j hj (Nat.le_refl _), fun i hi hji => h i hi (by omega), h2⟩
 ·rintro ⟨h, h1, h2⟩; refine ⟨fun i hi hji => ?_, h2⟩; rcases Nat.lt_or_ge j i with hlt | hge
  ·exact h1 i hi hlt
  ·obtain rfl : i = j := by omega
   exact h
theorem io {l : List Int} {j : Nat} (hj : l.length ≤ j) : dK l j ↔ 1 ≤ l.length ∧ l.length ≤ 8 := ⟨fun h => h.2, fun h => ⟨fun i hi hji => by omega, h⟩⟩
theorem g5 {l : List Int} {j : Nat} (hj : j < l.length) : dK l j ↔ (ky l[j] ∨ (0 < j ∧ lm l[j])) ∧ dK l (j + 1) := by
 constructor
 ·rintro ⟨h, h2⟩; exact ⟨h j hj (Nat.le_refl _), fun i hi hji => h i hi (by omega), h2⟩
 ·rintro ⟨h, h1, h2⟩; refine ⟨fun i hi hji => ?_, h2⟩; rcases Nat.lt_or_ge j i with hlt | hge
  ·exact h1 i hi hlt
  ·obtain rfl : i = j := by omega
   exact h
theorem gq (s : ByteArray) (j : Nat) (h : j < (au s).length) : bt s (j : Int) = (au s)[j] := by
 rw [← ka, iZ _ _ h]
theorem gA {α : Type} {g : Nat → Option α} {r : α} (h : ∀ k, g k = some r) : Ev g r := ⟨0, fun k _ => h k⟩
theorem gW (a : Int) : dO.f a = some (decide (lm a)) := by
 unfold dO.f lm
 by_cases h : a ≥ 48
 ·rw [if_pos h]; congr 1; exact decide_eq_decide.2 (by omega)
 ·rw [if_neg h]; congr 1; symm; exact decide_eq_false (by omega)
theorem gS (a : Int) : df.f a = some (decide (ky a)) := by
 unfold df.f ky
 by_cases h : a ≥ 97
 ·rw [if_pos h]; congr 1; exact decide_eq_decide.2 (by omega)
 ·rw [if_neg h]; congr 1; symm; exact decide_eq_false (by omega)
theorem dA (a b c : Int) : bc.f a b c = some (decide (b ≤ a ∧ a ≤ c)) := by
 unfold bc.f
 by_cases h : a ≥ b
 ·rw [if_pos h]; congr 1; exact decide_eq_decide.2 ⟨fun h2 => ⟨h, h2⟩, fun h2 => h2.2⟩
 ·rw [if_neg h]; congr 1; symm; exact decide_eq_false (fun h2 => h h2.1)
open Classical in
theorem j9 (s : ByteArray) (hn : s.size < 4611686018427387904) : ∀ (d i : Nat), i + d = s.size → Ev (fun k => aw.l0 k s (s.size : Int) (i : Int)) (decide (dK (au s) i)) := by
 have hb := b6 s; intro d; induction d with
 | zero =>
  intro i hi; refine Ev.step (fun k => aw.l0.eq_2 _ _ _ _) ?_; simp only [if_neg (show ¬ ((i : Int) < (s.size : Int)) by omega), dA, Option.bind_some]; refine cL (io (by omega)).symm ?_; refine gA fun _ => ?_
  congr 1; exact decide_eq_decide.2 (by omega)
 | succ d ih =>
  intro i hi; have hs := g5 (l := au s) (j := i) (by omega); refine Ev.step (fun k => aw.l0.eq_2 _ _ _ _) ?_; simp only [if_pos (show ((i : Int) < (s.size : Int)) by omega), if_pos (show 0 ≤ (i : Int) by omega), cg i (by omega), gq s i (by omega), gS, gW, Option.bind_some, decide_eq_true_eq]; by_cases h1 : ky (au s)[i]
  ·simp only [if_pos h1]; exact cL (hs.trans ⟨fun h => h.2, fun h => ⟨.inl h1, h⟩⟩).symm (ih (i + 1) (by omega))
  ·simp only [if_neg h1]; by_cases h0 : (i : Int) = 0
   ·simp only [if_pos h0]; have : decide (dK (au s) i) = false := decide_eq_false (fun h => by rcases (hs.1 h).1 with h2 | h2; exact h1 h2; omega); rw [this]; exact Ev.now _
   ·simp only [if_neg h0]; by_cases h2 : lm (au s)[i]
    ·simp only [if_pos h2]; exact cL (hs.trans ⟨fun h => h.2, fun h => ⟨.inr ⟨by omega, h2⟩, h⟩⟩).symm (ih (i + 1) (by omega))
    ·simp only [if_neg h2]; have : decide (dK (au s) i) = false := decide_eq_false (fun h => by rcases (hs.1 h).1 with h3 | h3; exact h1 h3; exact h2 h3.2); rw [this]; exact Ev.now _
theorem eO (s : ByteArray) (hn : s.size < 4611686018427387904) : Ev (fun k => aw.f k s) (eF (au s)) := j9 s hn s.size 0 (by omega)
theorem eV (s : ByteArray) : ∀ c ∈ au s, 0 ≤ c ∧ c ≤ 255 := by
 intro c hc; obtain ⟨b, _, rfl⟩ := List.mem_map.1 hc; have := b.toNat_lt; omega
theorem oP (s : ByteArray) (j : Nat) (h : j < (au s).length) : wrap64 (bt s (j : Int)) = (au s)[j] := by
 rw [gq s j h]; have := eV s _ (List.getElem_mem h); exact cN (by omega) (by omega)
open Classical in
theorem lI (s : ByteArray) (m : Int) (hs : s.size < 4611686018427387904) : ∀ (d i : Nat), i + d = s.size → Ev (fun k => bT.l0 k s m (s.size : Int) (i : Int)) (decide ((∀ c ∈ (au s).drop i, ry c) ∧ (s.size : Int) ≤ m)) := by
 have hlen := b6 s; intro d; induction d with
 | zero =>
  intro i hi; refine Ev.step (fun k => bT.l0.eq_2 _ _ _ _ _) ?_; simp only [if_neg (show ¬ ((i : Int) < (s.size : Int)) by omega)]; refine cL ?_ (Ev.now _); rw [List.drop_eq_nil_of_le (by omega)]; exact ⟨fun h => ⟨fun c hc => by simp at hc, h⟩, fun h => h.2⟩
 | succ d ih =>
  intro i hi; refine Ev.step (fun k => bT.l0.eq_2 _ _ _ _ _) ?_; simp only [if_pos (show ((i : Int) < (s.size : Int)) by omega), if_pos (show 0 ≤ (i : Int) by omega), oP s i (by omega), dA, Option.bind_some, decide_eq_true_eq, cg i (by omega)]; have e := List.drop_eq_getElem_cons (l := au s) (i := i) (by omega); by_cases hw : 32 ≤ (au s)[i] ∧ (au s)[i] ≤ 126
  ·simp only [if_pos hw]; refine cL ?_ (ih (i + 1) (by omega)); rw [e]; constructor
   ·rintro ⟨h1, h2⟩; exact ⟨fun c hc => by rcases List.mem_cons.1 hc with h | h; exact h ▸ hw; exact h1 c h, h2⟩
   ·rintro ⟨h1, h2⟩; exact ⟨fun c hc => h1 c (List.mem_cons_of_mem _ hc), h2⟩
  ·simp only [if_neg hw]; refine cy (fun h => hw (h.1 _ ?_)) (Ev.now _); rw [e]; exact List.mem_cons_self ..
theorem lu (s : ByteArray) (m : Int) (hs : s.size < 4611686018427387904) : Ev (fun k => bT.f k s m) (er s m) := by
 simp only [bT.f, er]; exact lI s m hs s.size 0 (by omega)
theorem la (s : ByteArray) (hs : s.size < 4611686018427387904) : Ev (fun k => bV.f k s) (er s 60) := by
 simp only [bV.f]; exact Ev.bind (lu s 60 hs) (Ev.now _)
open Classical in
theorem hU (key : ByteArray) (l : List S86) (hk : key.size ≤ 1048576) (hn : l.length ≤ 1048576) (hs : ∀ x ∈ l, x.f0.size ≤ 1048576 ∧ x.f1.size ≤ 1048576) : ∀ (d i : Nat), i + d = l.length →
  Ev (fun k => aW.l0 k l (l.length : Int) (i : Int) key l) (decide (fN key l i)) := by
 intro d; induction d with
 | zero =>
  intro i hi; refine Ev.step (fun k => aW.l0.eq_2 _ _ _ _ _ _) ?_; simp only [if_neg (show ¬ ((i : Int) < (l.length : Int)) by omega)]; refine cL (ik (by omega)).symm ?_; refine Ev.bind (eO key (by omega)) ?_; cases hnm : eF (au key) with
  | false => simp only [if_neg (show ¬ (false = true) by decide)]; exact cy (fun h => by cases h.1) (Ev.now _)
  | true =>
   simp only [if_true]; exact cL ⟨fun h => ⟨(by first | trivial | rfl), by omega⟩, fun h => by have := h.2; omega⟩ (Ev.now _)
 | succ d ih =>
  intro i hi; have hst := gQ (key := key) (l := l) (j := i) (by omega); have hsz := hs l[i] (List.getElem_mem _); have hnext := ih (i + 1) (by omega); refine Ev.step (fun k => aW.l0.eq_2 _ _ _ _ _ _) ?_; simp only [if_pos (show ((i : Int) < (l.length : Int)) by omega), if_pos (show 0 ≤ (i : Int) by omega), e7 l i (by omega), cg i (by omega)]; refine Ev.bind (eO l[i].f0 (by omega)) ?_; cases hnm : eF (au l[i].f0) with
  | false => simp only [if_neg (show ¬ (false = true) by decide)]; exact cy (fun h => by have := (hst.1 h).1.1; rw [hnm] at this; cases this) (Ev.now _)
  | true =>
   simp only [if_true]; refine Ev.bind (la l[i].f1 (by omega)) ?_; cases htx : er l[i].f1 60 with
   | false => simp only [if_neg (show ¬ (false = true) by decide)]; exact cy (fun h => by have := (hst.1 h).1.2.1; rw [htx] at this; cases this) (Ev.now _)
   | true =>
    simp only [if_true]; by_cases h0 : (i : Int) > 0
    ·have he : wrap64 ((i : Int) - 1) = ((i - 1 : Nat) : Int) := by rw [cN (by omega) (by omega)]; omega
     simp only [if_pos h0, he, if_pos (show 0 ≤ ((i - 1 : Nat) : Int) by omega), if_pos (show ((i - 1 : Nat) : Int) < (l.length : Int) by omega), e7 l (i - 1) (by omega)]; by_cases hl : oZ (l[i - 1]'(by omega)).f0 l[i].f0
     ·have hl2 : Op.bytesLess (l[i - 1]'(by omega)).f0.toList l[i].f0.toList = true := hl; simp only [hl2, if_true]; exact cL (hst.trans ⟨fun h => h.2, fun h => ⟨⟨hnm, htx, fun _ => hl⟩, h⟩⟩).symm hnext
     ·have hl2 : Op.bytesLess (l[i - 1]'(by omega)).f0.toList l[i].f0.toList = false := Bool.eq_false_iff.2 hl; simp only [hl2, if_neg (show ¬ (false = true) by decide)]; exact cy (fun h => hl ((hst.1 h).1.2.2 (by omega))) (Ev.now _)
    ·simp only [if_neg h0]; exact cL (hst.trans ⟨fun h => h.2, fun h => ⟨⟨hnm, htx, fun h1 => by omega⟩, h⟩⟩).symm hnext
theorem g7 (key : ByteArray) (l : List S86) (hk : key.size ≤ 1048576) (hn : l.length ≤ 1048576) (hs : ∀ x ∈ l, x.f0.size ≤ 1048576 ∧ x.f1.size ≤ 1048576) : Ev (fun k => aW.f k key l) (jw key l) := hU key l hk hn hs l.length 0 (by omega)
theorem de {α : Type} (l : List α) (j : Nat) (h : j < l.length) : l.drop j = l[j] :: l.drop (j + 1) := List.drop_eq_getElem_cons h
def nV (F : List S92) (l : List S86) : Prop := ∀ c ∈ l, js (eo F c.f0) c.f1
theorem ez {g : Nat → Option Bool} {p : Prop} {ip : Decidable p} (h : p) (k : Ev g true) : Ev g (@decide p ip) := by
 rw [decide_eq_true h]; exact k
theorem jI (n : ByteArray) (F : List S92) (hn : F.length < 4611686018427387904) : ∀ (d i : Nat), i + d = F.length → Ev (fun k => a6.l0 k n F (F.length : Int) (i : Int)) (em n (F.drop i)) := by
 intro d; induction d with
 | zero =>
  intro i hi; refine Ev.step (fun k => a6.l0.eq_2 _ _ _ _ _) ?_; simp only [if_neg (show ¬ ((i : Int) < (F.length : Int)) by omega)]; rw [List.drop_eq_nil_of_le (by omega)]; exact Ev.now _
 | succ d ih =>
  intro i hi; have hil : i < F.length := by omega
  refine Ev.step (fun k => a6.l0.eq_2 _ _ _ _ _) ?_; rw [de F i hil]; simp only [if_pos (show ((i : Int) < (F.length : Int)) by omega), if_pos (show 0 ≤ (i : Int) by omega), en F i hil, toList_inj, cg i (by omega), em]; by_cases h : F[i].f0 = n
  ·simp only [if_pos h]; exact Ev.now _
  ·simp only [if_neg h]; exact ih (i + 1) (by omega)
theorem ge (n : ByteArray) (F : List S92) (hn : F.length < 4611686018427387904) : Ev (fun k => a6.f k F n) (em n F) := by
 have := jI n F hn F.length 0 (by omega); simpa [a6.f] using this
theorem iv {α : Type} (d : α) (l : List α) (j : Nat) (h : j < l.length) : eT d l (j : Int) = l[j] := by
 unfold eT; simp [List.getD_eq_getElem?_getD, List.getElem?_eq_getElem h]
theorem eI {x : ByteArray} {l : List ByteArray} : fY (x :: l) ↔ eF (au x) = true ∧ fY l := by
 unfold fY
 constructor
 ·intro h; exact ⟨h x (by simp), fun y hy => h y (List.mem_cons_of_mem _ hy)⟩
 ·rintro ⟨h1, h2⟩ y hy; rcases List.mem_cons.1 hy with rfl | hy
  ·exact h1
  ·exact h2 y hy
open Classical in
theorem j4 (L : List ByteArray) (hL : L.length ≤ 1048577) (hx : ∀ x ∈ L, x.size ≤ 1048576) : ∀ (d i : Nat), i + d = L.length → Ev (fun k => bG.l0 k L L (L.length : Int) (i : Int)) (decide (fY (L.drop i) ∧ L.length ≤ 4)) := by
 intro d; induction d with
 | zero =>
  intro i hi; refine Ev.step (fun k => bG.l0.eq_2 _ _ _ _ _) ?_; simp only [if_neg (show ¬ ((i : Int) < (L.length : Int)) by omega)]; rw [List.drop_eq_nil_of_le (by omega)]; refine cS ?_ (Ev.now _); exact ⟨fun h => ⟨fun x hx => by simp at hx, by omega⟩, fun h => by have := h.2; omega⟩
 | succ d ih =>
  intro i hi; have hil : i < L.length := by omega
  have hxi := hx L[i] (List.getElem_mem _); refine Ev.step (fun k => bG.l0.eq_2 _ _ _ _ _) ?_; simp only [if_pos (show ((i : Int) < (L.length : Int)) by omega), if_pos (show 0 ≤ (i : Int) by omega), iv _ L i hil, cg i (by omega)]; refine Ev.bind (eO L[i] (by omega)) ?_; rw [de L i hil]; cases hnm : eF (au L[i]) with
  | false => simp only [if_neg (show ¬ (false = true) by decide)]; exact bA (fun h => by have := (eI.1 h.1).1; rw [hnm] at this; cases this) (Ev.now _)
  | true =>
   simp only [if_true]; exact cS ⟨fun h => ⟨eI.2 ⟨hnm, h.1⟩, h.2⟩, fun h => ⟨(eI.1 h.1).2, h.2⟩⟩ (ih (i + 1) (by omega))
theorem nD (s : ByteArray) : mkT s.data.toList = s := by cases s; rfl
theorem gJ (c : UInt8) (acc l : List UInt8) : eq c 0 acc l = [acc ++ l] := by cases l <;> simp [eq]
theorem iE (c : UInt8) : ∀ (x : List UInt8) (n : Nat) (acc r : List UInt8), c ∉ x → eq c n acc (x ++ r) = eq c n (acc ++ x) r
 | [], n, acc, r, _ => by simp
 | a :: x, 0, acc, r, _ => by rw [gJ, gJ]; simp
 | a :: x, n + 1, acc, r, h => by
  have h1 : a ≠ c := fun e => h (by simp [e])
  rw [List.cons_append, eq, if_neg h1, iE c x (n + 1) _ r (fun e => h (List.mem_cons_of_mem _ e))]; simp
theorem iB (c : UInt8) (r : List UInt8) : ∀ (x : List UInt8), c ∉ x → Lib.indexByte (x ++ c :: r) c = (x.length : Int)
 | [], _ => by simp [Lib.indexByte]
 | a :: x, h => by
  have ha : a ≠ c := fun e => h (by simp [e])
  have := iB c r x (fun e => h (List.mem_cons_of_mem _ e)); simp [Lib.indexByte, this, ha]
theorem gV (c : UInt8) : ∀ (l : List UInt8), c ∉ l → Lib.indexByte l c = -1
 | [], _ => rfl
 | x :: l, h => by
  have hx : x ≠ c := fun e => h (by simp [e])
  have := gV c l (fun e => h (List.mem_cons_of_mem _ e)); simp [Lib.indexByte, this, hx]
theorem mb (c : UInt8) : ∀ (k : Nat) (l : List UInt8), Lib.splitK [c] 0 k l = eq c k [] l
 | 0, l => by rw [gJ]; rfl
 | k + 1, l => by
  unfold Lib.splitK
  rw [Lib.index_one]; by_cases h : c ∈ l
  ·obtain ⟨x, r, rfl, hx⟩ := List.eq_append_cons_of_mem h; rw [iB c r x hx, if_neg (by simp), mb c k, iE c x (k + 1) [] _ hx, eq, if_pos rfl]; simp
  ·rw [gV c l h, if_pos (by decide)]; have := iE c l (k + 1) [] [] h; rw [List.append_nil, List.nil_append] at this; rw [this]; simp [eq]
theorem qm (c : UInt8) (s : ByteArray) (hs : s.size < 4294967281) : strings_Split.f s ⟨#[c]⟩ = some (ec c s) := by
 unfold strings_Split.f
 rw [if_pos ⟨hs, Nat.le_refl _⟩]; have e : (⟨#[c]⟩ : ByteArray).data.toList = [c] := rfl; have h1 := Lib.splitB_data ⟨#[c]⟩ 0 (Lib.countB s ⟨#[c]⟩) s; rw [e, mb] at h1; have h2 : Lib.countB s ⟨#[c]⟩ = s.data.toList.count c := by
  show Lib.count s.data.toList [c] = _
  exact Lib.count_one c _
 rw [h2] at h1 ⊢; unfold ec
 rw [← h1, List.map_map]; congr 1
 conv => lhs; rw [← List.map_id (Lib.splitB _ _ _ _)]
 exact List.map_congr_left (fun x _ => (nD x).symm)
theorem gu (c : UInt8) : ∀ (l : List UInt8) (n : Nat) (acc : List UInt8), (eq c n acc l).length ≤ l.length + 1 ∧ (eq c n acc l).length ≤ n + 1 ∧ 1 ≤ (eq c n acc l).length
 | [], n, acc => by simp [eq]
 | x :: xs, 0, acc => by simp [eq]
 | x :: xs, n + 1, acc => by
  have h1 := gu c xs n []; have h2 := gu c xs (n + 1) (acc ++ [x]); unfold eq
  split
  ·simp only [List.length_cons]; omega
  ·simp only [List.length_cons]; omega
theorem fj (s : ByteArray) : s.data.toList.length = s.size := rfl
theorem gX (c : UInt8) (s : ByteArray) : (ec c s).length ≤ s.size + 1 ∧ 1 ≤ (ec c s).length := by
 unfold ec
 have := gu c s.data.toList (s.data.toList.count c) []; rw [List.length_map]; rw [fj] at this; omega
theorem iF (c : UInt8) : ∀ (l : List UInt8) (n : Nat) (acc : List UInt8), ∀ p ∈ eq c n acc l, p.length ≤ acc.length + l.length
 | [], n, acc => by simp [eq]
 | x :: xs, 0, acc => by simp [eq]
 | x :: xs, n + 1, acc => by
  intro p hp; unfold eq at hp
  split at hp
  ·rcases List.mem_cons.1 hp with rfl | hp
   ·omega
   ·have := iF c xs n [] p hp; simp only [List.length_nil, List.length_cons] at this ⊢; omega
  ·have := iF c xs (n + 1) (acc ++ [x]) p hp; simp only [List.length_append, List.length_cons, List.length_nil] at this ⊢; omega
theorem ri (l : List UInt8) : (mkT l).size = l.length := by simp [mkT, ByteArray.size]
theorem jv {c : UInt8} {s p : ByteArray} (h : p ∈ ec c s) : p.size ≤ s.size := by
 obtain ⟨x, hx, rfl⟩ := List.mem_map.1 h; have := iF c _ _ _ x hx; rw [fj] at this; rw [ri]; simpa using this
open Classical in
theorem kO (s : ByteArray) (hs : s.size ≤ 1048576) : Ev (fun k => bG.f k s) (decide (kc s)) := by
 have hlen := gX 44 s; simp only [bG.f, qm 44 s (show s.size < 4294967281 by omega), Option.bind_some]; have h := j4 (ec 44 s) (by omega) (fun x hx => by have := jv hx; omega) (ec 44 s).length 0 (by omega); rw [List.drop_zero] at h; exact cS Iff.rfl h
theorem pU (s : ByteArray) (hs : s.size ≤ 140737488355328) : b9.f s = some (hJ s) := by
 unfold b9.f
 rw [if_pos hs]; rfl
open Classical in
theorem lJ (F : List S92) (hF : F.length ≤ 1048576) (l : List S86) (hn : l.length ≤ 1048576) (hs : ∀ x ∈ l, x.f0.size ≤ 1048576 ∧ x.f1.size ≤ 1048576) : ∀ (d i : Nat), i + d = l.length →
  Ev (fun k => aI.l0 k F l (l.length : Int) (i : Int)) (decide (nV F (l.drop i))) := by
 intro d; induction d with
 | zero =>
  intro i hi; refine Ev.step (fun k => aI.l0.eq_2 _ _ _ _ _) ?_; simp only [if_neg (show ¬ ((i : Int) < (l.length : Int)) by omega)]; rw [List.drop_eq_nil_of_le (by omega)]; exact ez (fun c hc => by simp at hc) (Ev.now _)
 | succ d ih =>
  intro i hi; have hil : i < l.length := by omega
  have hsz := hs l[i] (List.getElem_mem _); have hnx := ih (i + 1) (by omega); have yes : js (eo F l[i].f0) l[i].f1 → Ev (fun k => aI.l0 k F l (l.length : Int) ((i + 1 : Nat) : Int)) (decide (nV F (l[i] :: l.drop (i + 1)))) := by
   intro h; refine cS ⟨fun h2 c hc => ?_, fun h2 c hc => h2 c (List.mem_cons_of_mem _ hc)⟩ hnx; rcases List.mem_cons.1 hc with rfl | hc
   ·exact h
   ·exact h2 c hc
  have no : ¬ js (eo F l[i].f0) l[i].f1 → Ev (fun _ : Nat => some false) (decide (nV F (l[i] :: l.drop (i + 1)))) := fun h => bA (fun h2 => h (h2 _ (List.mem_cons_self ..))) (Ev.now _)
  refine Ev.step (fun k => aI.l0.eq_2 _ _ _ _ _) ?_; rw [de l i hil]; simp only [if_pos (show ((i : Int) < (l.length : Int)) by omega), if_pos (show 0 ≤ (i : Int) by omega), e7 l i hil, cg i (by omega)]; refine Ev.bind (ge l[i].f0 F (by omega)) ?_; have hkd : (em l[i].f0 F).2.1 = eo F l[i].f0 := rfl; rw [hkd]; by_cases h1 : eo F l[i].f0 = 1
  ·simp only [if_pos h1]; exact yes (Or.inl h1)
  ·simp only [if_neg h1]; by_cases h2 : eo F l[i].f0 = 2
   ·simp only [if_pos h2, pU l[i].f1 (by omega), Option.bind_some]; cases hnum : (hJ l[i].f1).2 with
    | true => simp only [if_true]; exact yes (Or.inr (Or.inl ⟨h2, hnum⟩))
    | false =>
     simp only [if_neg (show ¬ (false = true) by decide)]; refine no (fun h => ?_); rcases h with h | ⟨_, h⟩ | ⟨h, _⟩
     ·exact h1 h
     ·rw [hnum] at h; cases h
     ·omega
   ·simp only [if_neg h2]; by_cases h3 : eo F l[i].f0 = 3
    ·simp only [if_pos h3]; refine Ev.bind (kO l[i].f1 hsz.2) ?_; by_cases ht : kc l[i].f1
     ·rw [decide_eq_true ht]; simp only [if_true]; exact yes (Or.inr (Or.inr ⟨h3, ht⟩))
     ·rw [decide_eq_false ht]; simp only [if_neg (show ¬ (false = true) by decide)]; refine no (fun h => ?_); rcases h with h | ⟨h, _⟩ | ⟨_, h⟩
      ·exact h1 h
      ·exact h2 h
      ·exact ht h
    ·simp only [if_neg h3]; refine no (fun h => ?_); rcases h with h | ⟨h, _⟩ | ⟨h, _⟩
     ·exact h1 h
     ·exact h2 h
     ·exact h3 h
theorem gt {l : List S92} {j : Nat} (hj : l.length ≤ j) : dB l j ↔ 1 ≤ l.length ∧ l.length ≤ 4 := ⟨fun h => h.2, fun h => ⟨fun i hi hji => by omega, h⟩⟩
theorem gf {l : List S92} {j : Nat} (hj : j < l.length) : dB l j ↔ (dK (au l[j].f0) 0 ∧ fK l[j] ∧ ∀ m (hm : m < j), l[m].f0 ≠ l[j].f0) ∧ dB l (j + 1) := by
 constructor
 ·rintro ⟨h, h2⟩; exact ⟨h j hj (Nat.le_refl _), fun i hi hji => h i hi (by omega), h2⟩
 ·rintro ⟨h, h1, h2⟩; refine ⟨fun i hi hji => ?_, h2⟩; rcases Nat.lt_or_ge j i with hlt | hge
  ·exact h1 i hi hlt
  ·obtain rfl : i = j := by omega
   exact h
open Classical in
theorem fO {l : List Int} : eF l = true ↔ dK l 0 := by unfold eF; exact decide_eq_true_iff
theorem kA (l : List ByteArray) (j : Nat) (h : j < l.length) : eT ByteArray.empty l (j : Int) = l[j] := iv _ l j h
open Classical in
theorem e6 (l : List ByteArray) (n : ByteArray) (hn : l.length < 4611686018427387904) : ∀ (d i : Nat), i + d = l.length → ∃ r : Int, Ev (fun k => an.l0 k l n (l.length : Int) (i : Int)) r ∧ decide (r ≥ 0) = decide (n ∈ l.drop i) := by
 intro d; induction d with
 | zero =>
  intro i hi; refine ⟨-1, Ev.step (fun k => an.l0.eq_2 _ _ _ _ _) ?_, ?_⟩
  ·simp only [if_neg (show ¬ ((i : Int) < (l.length : Int)) by omega)]; exact Ev.now _
  ·rw [List.drop_of_length_le (by omega)]; simp
 | succ d ih =>
  intro i hi; have hs := d8 (l := l) (n := n) (show i < l.length by omega); by_cases h : n = l[i]
  ·refine ⟨(i : Int), Ev.step (fun k => an.l0.eq_2 _ _ _ _ _) ?_, ?_⟩
   ·simp only [if_pos (show ((i : Int) < (l.length : Int)) by omega), if_pos (show 0 ≤ (i : Int) by omega), kA l i (by omega), toList_inj, if_pos h]; exact Ev.now _
   ·rw [decide_eq_true (hs.2 (.inl h))]; simp
  ·obtain ⟨r, h1, h2⟩ := ih (i + 1) (by omega); refine ⟨r, Ev.step (fun k => an.l0.eq_2 _ _ _ _ _) ?_, ?_⟩
   ·simp only [if_pos (show ((i : Int) < (l.length : Int)) by omega), if_pos (show 0 ≤ (i : Int) by omega), kA l i (by omega), toList_inj, if_neg h, cg i (by omega)]; exact h1
   ·rw [h2]; exact decide_eq_decide.2 (hs.trans ⟨fun h1 => h1.resolve_left h, .inr⟩).symm
open Classical in
theorem cV (l : List ByteArray) (n : ByteArray) (hn : l.length < 4611686018427387904) : Ev (fun k => ao.f k l n) (decide (n ∈ l)) := by
 obtain ⟨r, h1, h2⟩ := e6 l n hn l.length 0 (by omega); simp only [ao.f]; refine Ev.bind (a := r) h1 ?_; rw [h2]; exact Ev.now _
open Classical in
theorem iH (l : List S92) (hn : l.length ≤ 1048577) (hs : ∀ x ∈ l, x.f0.size ≤ 1048576) : ∀ (d i : Nat), i + d = l.length →
  Ev (fun k => az.l0 k l ((l.take i).map (fun x => x.f0)) l (l.length : Int) (i : Int)) (decide (dB l i)) := by
 intro d; induction d with
 | zero =>
  intro i hi; refine Ev.step (fun k => az.l0.eq_2 _ _ _ _ _ _) ?_; simp only [if_neg (show ¬ ((i : Int) < (l.length : Int)) by omega), dA, Option.bind_some]; refine cL (gt (by omega)).symm ?_; refine gA fun _ => ?_
  congr 1; exact decide_eq_decide.2 (by omega)
 | succ d ih =>
  intro i hi; have hst := gf (l := l) (j := i) (by omega); have hsz := hs l[i] (List.getElem_mem _); have hlen : ((l.take i).map (fun x => x.f0)).length = i := by rw [List.length_map, List.length_take]; omega
  have hmem : l[i].f0 ∈ (l.take i).map (fun x => x.f0) ↔ ∃ m, ∃ hm : m < i, l[m].f0 = l[i].f0 := by
   rw [List.mem_map]; constructor
   ·rintro ⟨x, hx, he⟩; obtain ⟨m, hm, rfl⟩ := List.mem_iff_getElem.1 hx; rw [List.length_take] at hm; exact ⟨m, by omega, by rw [← he, List.getElem_take]⟩
   ·rintro ⟨m, hm, he⟩; exact ⟨l[m], List.mem_iff_getElem.2 ⟨m, by rw [List.length_take]; omega, by rw [List.getElem_take]⟩, he⟩
  have hnx : (l.take (i + 1)).map (fun x => x.f0) = (l.take i).map (fun x => x.f0) ++ [l[i].f0] := by
   rw [List.take_add_one, List.getElem?_eq_getElem (by omega), List.map_append]; rfl
  refine Ev.step (fun k => az.l0.eq_2 _ _ _ _ _ _) ?_; simp only [if_pos (show ((i : Int) < (l.length : Int)) by omega), if_pos (show 0 ≤ (i : Int) by omega), en l i (by omega), dA, Option.bind_some]; have hj1 : ∀ (t : Bool), ((t = true ∧ 1 ≤ l[i].f1 ∧ l[i].f1 ≤ 3) ↔ fK l[i]) → Ev (fun k => az.j1 k l ((l.take i).map (fun x => x.f0)) t l (l.length : Int) (i : Int) l[i].f0 l[i].f1 l[i].f2) (decide (dB l i)) := by
   intro t ht; refine Ev.step (fun k => az.j1.eq_2 _ _ _ _ _ _ _ _ _ _) ?_; refine Ev.bind (eO l[i].f0 (by omega)) ?_; cases hnm : eF (au l[i].f0) with
   | false =>
    simp only [if_neg (show ¬ (false = true) by decide)]; refine cy (fun h => ?_) (Ev.now _); have := fO.2 (hst.1 h).1.1; rw [hnm] at this; cases this
   | true =>
    simp only [if_true]; refine Ev.bind (cV _ _ (by rw [hlen]; omega)) ?_; simp only [decide_eq_true_eq, dA, Option.bind_some]; by_cases hc : l[i].f0 ∈ (l.take i).map (fun x => x.f0)
    ·simp only [if_pos hc]; obtain ⟨m, hm, he⟩ := hmem.1 hc; exact cy (fun h => (hst.1 h).1.2.2 m hm he) (Ev.now _)
    ·simp only [if_neg hc]; by_cases hp : fK l[i]
     ·obtain ⟨h1, h2⟩ := ht.2 hp; simp only [if_pos h2, h1, if_true, hlen, if_pos (show i < 8796093022208 by omega), cg i (by omega)]; have hnext := ih (i + 1) (by omega); rw [hnx] at hnext; exact cL (hst.trans ⟨fun h => h.2, fun h => ⟨⟨fO.1 hnm, hp, fun m hm he => hc (hmem.2 ⟨m, hm, he⟩)⟩, h⟩⟩).symm hnext
     ·have hf : Ev (fun _ => some false) (decide (dB l i)) := cy (fun h => hp (hst.1 h).1.2.1) (Ev.now _); by_cases h2 : 1 ≤ l[i].f1 ∧ l[i].f1 ≤ 3
      ·have h1 : t = false := by
        cases t
        ·rfl
        ·exact absurd (ht.1 ⟨rfl, h2⟩) hp
       simp only [if_pos h2, h1, if_neg (show ¬ (false = true) by decide)]; exact hf
      ·simp only [if_neg h2]; exact hf
  by_cases h1 : l[i].f1 = 1
  ·simp only [if_pos h1]; refine hj1 _ ?_; unfold fK
   rw [decide_eq_true_eq]; constructor
   ·intro h; exact .inl ⟨h1, h.1⟩
   ·intro h; rcases h with h | h
    ·exact ⟨h.2, by omega, by omega⟩
    ·omega
  ·simp only [if_neg h1]; refine hj1 _ ?_; unfold fK
   rw [beq_iff_eq]; constructor
   ·intro h; exact .inr ⟨by omega, h.2.2, h.1⟩
   ·intro h; rcases h with h | h
    ·exact absurd h.1 h1
    ·exact ⟨h.2.2, by omega, h.2.1⟩
theorem fU (l : List S92) (hn : l.length ≤ 1048577) (hs : ∀ x ∈ l, x.f0.size ≤ 1048576) : Ev (fun k => az.f k l) (eW l) := iH l hn hs l.length 0 (by omega)
open Classical in
theorem lH (F : List S92) (hF : F.length ≤ 1048576) (hFs : ∀ x ∈ F, x.f0.size ≤ 1048576) (key : ByteArray) (l : List S86) (hk : key.size ≤ 1048576) (hn : l.length ≤ 1048576) (hs : ∀ x ∈ l, x.f0.size ≤ 1048576 ∧ x.f1.size ≤ 1048576) : Ev (fun k => aI.f k F key l) (gj F key l) := by
 simp only [aI.f, gj]; have stop : ¬ iY F key l → Ev (fun k => aI.j0 k F true key l) (decide (iY F key l)) := by
  intro h; refine Ev.step (fun k => aI.j0.eq_2 _ _ _ _ _) ?_; simp only [if_true]; exact bA h (Ev.now _)
 refine Ev.bind (fU F (by omega) hFs) ?_; cases hf : eW F with
 | false => simp only [if_neg (show ¬ (false = true) by decide)]; exact stop (fun h => by have := h.1; rw [hf] at this; cases this)
 | true =>
  simp only [if_true]; refine Ev.bind (g7 key l hk hn hs) ?_; cases hm : jw key l with
  | false => exact stop (fun h => by have := h.2.1; rw [hm] at this; cases this)
  | true =>
   simp only [Bool.not_true]; refine Ev.step (fun k => aI.j0.eq_2 _ _ _ _ _) ?_; simp only [if_neg (show ¬ (false = true) by decide)]; have h := lJ F hF l hn hs l.length 0 (by omega); rw [List.drop_zero] at h; refine cS ?_ h; unfold iY
   exact ⟨fun h => ⟨hf, hm, h⟩, fun h => h.2.2⟩
theorem jz (l : List S90) (j : Nat) (h : j < l.length) : dv l (j : Int) = l[j] := by
 unfold dv; simp [List.getD_eq_getElem?_getD, List.getElem?_eq_getElem h]
theorem im (l : List Int) (h : ∀ c ∈ l, 0 ≤ c ∧ c ≤ 255) : au (strOfNums l) = l := by
 unfold au
 rw [strOfNums_data, List.map_map]; conv => rhs; rw [← List.map_id l]
 apply List.map_congr_left
 intro c hc; have := h c hc; simp only [Function.comp, id]; rw [UInt8.toNat_ofNat']; omega
theorem nb (c : Int) (h : 0 ≤ c ∧ c ≤ 255) : 0 ≤ dF c ∧ dF c ≤ 255 := by
 unfold dF; split <;> omega
def eA (s : ByteArray) : ByteArray := strOfNums ((au s).map dF)
theorem lG (s : ByteArray) : au (eA s) = (au s).map dF := by
 unfold eA
 apply im
 intro c hc; obtain ⟨b, hb, rfl⟩ := List.mem_map.1 hc; exact nb b (eV s b hb)
theorem k5 (s : ByteArray) : (eA s).size = s.size := by
 rw [← b6, lG, List.length_map, b6]
theorem mO (s : ByteArray) (hn : s.size < 70368744177664) : eR.f s = some (eA s) := by
 unfold eR.f
 rw [if_pos (by omega)]; rfl
open Classical in
noncomputable def fc (w : ByteArray) : ByteArray := if w ∈ cB then (⟨#[]⟩ : ByteArray) else w
open Classical in
theorem mg (x : ByteArray) (hx : x.size ≤ 100) (b : Bool) (hb : b = true → 1 ≤ x.size) : Ev (fun k => bL.j0 k x (x.size : Int) b) (fc (if b = true then x.extract 0 (x.size - 1) else x)) := by
 refine Ev.step (fun k => bL.j0.eq_2 _ _ _ _) ?_; cases b with
 | false =>
  simp only [if_neg (show ¬ (false = true) by decide)]; refine Ev.bind (cV cB x (by decide)) ?_; unfold fc
  by_cases h : x ∈ cB
  ·simp only [if_pos h, decide_eq_true h, if_true]; exact Ev.now _
  ·simp only [if_neg h, decide_eq_false h, if_neg (show ¬ (false = true) by decide)]; exact Ev.now _
 | true =>
  have h1 := hb rfl; simp only [if_true, cN (x := (x.size : Int) - 1) (by omega) (by omega), if_pos (show 0 ≤ (x.size : Int) - 1 by omega), if_pos (show (x.size : Int) - 1 ≤ (x.size : Int) by omega), show ((x.size : Int) - 1).toNat = x.size - 1 by omega]; refine Ev.bind (cV cB _ (by decide)) ?_; unfold fc
  by_cases h : x.extract 0 (x.size - 1) ∈ cB
  ·simp only [if_pos h, decide_eq_true h, if_true]; exact Ev.now _
  ·simp only [if_neg h, decide_eq_false h, if_neg (show ¬ (false = true) by decide)]; exact Ev.now _
def gi (w : ByteArray) : ByteArray := w.extract 0 (min w.size 12)
theorem extract_size (w : ByteArray) (n : Nat) (h : n ≤ w.size) : (w.extract 0 n).size = n := by rw [ByteArray.size_extract]; omega
theorem kx (w : ByteArray) : (gi w).size = min w.size 12 := extract_size w _ (Nat.min_le_left _ _)
def iD (w : ByteArray) : Bool := decide (w.size > 3 ∧ bt w ((w.size : Int) - 1) = 115 ∧ bt w ((w.size : Int) - 2) ≠ 115)
def noS (w : ByteArray) : ByteArray := if iD w = true then w.extract 0 (w.size - 1) else w
noncomputable def gn (s : ByteArray) : ByteArray := fc (noS (gi (eA s)))
theorem mf (s : ByteArray) (hs : s.size < 70368744177664) : Ev (fun k => bL.f k s) (gn s) := by
 simp only [bL.f]; have hz := k5 s; simp only [mO s hs, Option.bind_some]; have hmn : mn ((eA s).size : Int) 12 = ((min (eA s).size 12 : Nat) : Int) := by unfold mn; split <;> omega
 simp only [hmn, if_pos (show (0 : Int) ≤ ((min (eA s).size 12 : Nat) : Int) by omega), if_pos (show ((min (eA s).size 12 : Nat) : Int) ≤ ((eA s).size : Int) by omega), Int.toNat_natCast]; have hc : (eA s).extract 0 (min (eA s).size 12) = gi (eA s) := rfl; have hx : (gi (eA s)).size ≤ 100 := by rw [kx]; omega
 simp only [hc]; unfold gn
 generalize gi (eA s) = x at hx; have key : ∀ b : Bool, b = iD x → Ev (fun k => bL.j0 k x (x.size : Int) b) (fc (noS x)) := by
  intro b hb; have := mg x hx b (fun h => by
   rw [hb] at h; have := (of_decide_eq_true h).1; omega)
  rw [hb] at this ⊢; exact this
 by_cases h3 : (x.size : Int) > 3
 ·simp only [if_pos h3, cN (x := (x.size : Int) - 1) (by omega) (by omega), cN (x := (x.size : Int) - 2) (by omega) (by omega), if_pos (show 0 ≤ (x.size : Int) - 1 by omega), if_pos (show (x.size : Int) - 1 < (x.size : Int) by omega), if_pos (show 0 ≤ (x.size : Int) - 2 by omega), if_pos (show (x.size : Int) - 2 < (x.size : Int) by omega)]; by_cases h4 : bt x ((x.size : Int) - 1) = 115
  ·simp only [if_pos h4]; refine key _ ?_; unfold iD
   by_cases h5 : bt x ((x.size : Int) - 2) = 115
   ·rw [decide_eq_false (fun h => h.2.2 h5)]; simp [h5]
   ·rw [decide_eq_true ⟨by omega, h4, h5⟩]; simp [h5]
  ·simp only [if_neg h4]; refine key _ ?_; unfold iD
   rw [decide_eq_false (fun h => h4 h.2.1)]
 ·simp only [if_neg h3]; refine key _ ?_; unfold iD
  rw [decide_eq_false (fun h => by have := h.1; omega)]
theorem ll (l : List S90) (hn : l.length ≤ 1048578) (hs : ∀ w ∈ l, w.f0.size < 70368744177664) : ∀ (d i : Nat) (acc : List ByteArray), i + d = l.length → acc.length ≤ i →
  Ev (fun k => bR.l0 k acc l (l.length : Int) (i : Int)) (acc ++ (l.drop i).map (fun w => gn w.f0)) := by
 intro d; induction d with
 | zero =>
  intro i acc hi ha; refine Ev.step (fun k => bR.l0.eq_2 _ _ _ _ _) ?_; simp only [if_neg (show ¬ ((i : Int) < (l.length : Int)) by omega)]; rw [List.drop_eq_nil_of_le (by omega), List.map_nil, List.append_nil]; exact Ev.now _
 | succ d ih =>
  intro i acc hi ha; refine Ev.step (fun k => bR.l0.eq_2 _ _ _ _ _) ?_; simp only [if_pos (show ((i : Int) < (l.length : Int)) by omega), if_pos (show 0 ≤ (i : Int) by omega), jz l i (by omega), cg i (by omega)]; refine Ev.bind (mf _ (hs _ (List.getElem_mem (by omega)))) ?_; simp only [if_pos (show acc.length < 8796093022208 by omega)]; have := ih (i + 1) (acc ++ [gn l[i].f0]) (by omega) (by simp; omega); rw [de l i (by omega), List.map_cons]; rw [List.append_assoc] at this; exact this
def upP (c : Int) : Prop := 65 ≤ c ∧ c ≤ 90
instance (c : Int) : Decidable (upP c) := by unfold upP; infer_instance
def fR (c : Int) : Prop := upP c ∨ ky c ∨ lm c
instance (c : Int) : Decidable (fR c) := by unfold fR; infer_instance
def cE : Nat → Option Nat → List Int → List (Nat × Nat)
 | _, none, [] => []
 | p, some st, [] => [(st, p)]
 | p, none, c :: cs => if fR c then cE (p + 1) (some p) cs else cE (p + 1) none cs
 | p, some st, c :: cs => if fR c then cE (p + 1) (some st) cs else (st, p) :: cE (p + 1) none cs
def f4 (s : ByteArray) (q : Nat × Nat) : S90 := ⟨s.extract q.1 q.2, (q.1 : Int), (q.2 : Int)⟩
def eP (s : ByteArray) : List S90 := (cE 0 none (au s)).map (f4 s)
noncomputable def fq (s : ByteArray) : List ByteArray := (eP s).map (fun w => gn w.f0)
theorem jO (s : ByteArray) (a b : Nat) : (s.extract a b).size ≤ s.size := by rw [ByteArray.size_extract]; omega
theorem gU (s : ByteArray) : ∀ w ∈ eP s, w.f0.size ≤ s.size := by
 intro w hw; obtain ⟨q, _, rfl⟩ := List.mem_map.1 hw; exact jO s _ _
theorem lz (a : Int) : dh.f a = some (decide (upP a)) := by
 unfold dh.f upP
 by_cases h : a ≥ 65
 ·rw [if_pos h]; congr 1; exact decide_eq_decide.2 (by omega)
 ·rw [if_neg h]; congr 1; symm; exact decide_eq_false (by omega)
theorem iN (c : Int) : dl.f c = some (decide (fR c)) := by
 simp only [dl.f, lz, gS, gW, Option.bind_some, decide_eq_true_eq]; by_cases h1 : upP c
 ·rw [if_pos h1, decide_eq_true (show fR c from .inl h1)]
 ·rw [if_neg h1]; by_cases h2 : ky c
  ·rw [if_pos h2, decide_eq_true (show fR c from .inr (.inl h2))]
  ·rw [if_neg h2]; congr 1; exact decide_eq_decide.2 ⟨fun h => .inr (.inr h), fun h => (h.resolve_left h1).resolve_left h2⟩
theorem mI (s : ByteArray) (hn : s.size < 1099511627776) : ∀ (d : Nat),
  (∀ (i : Nat) (acc : List S90), i + d = s.size → acc.length ≤ i → Ev (fun k => aY.l0 k s acc (i : Int)) (acc ++ (cE i none ((au s).drop i)).map (f4 s))) ∧
  (∀ (i j : Nat) (acc : List S90), i + d = s.size → j < i → acc.length ≤ i → Ev (fun k => aY.l1 k s acc (i : Int) (j : Int)) (acc ++ (cE i (some j) ((au s).drop i)).map (f4 s))) := by
 have hb := b6 s; intro d; induction d with
 | zero =>
  have h0 : ∀ (i : Nat) (acc : List S90), s.size ≤ i → Ev (fun k => aY.l0 k s acc (i : Int)) acc := by
   intro i acc hi; refine Ev.step (fun k => aY.l0.eq_2 _ _ _ _) ?_; simp only [if_neg (show ¬ ((i : Int) < (s.size : Int)) by omega)]; exact Ev.now _
  constructor
  ·intro i acc hi hacc; rw [List.drop_of_length_le (by omega)]; simpa [cE] using h0 i acc (by omega)
  ·intro i j acc hi hj hacc; rw [List.drop_of_length_le (by omega)]; refine Ev.step (fun k => aY.l1.eq_2 _ _ _ _ _) ?_; simp only [if_neg (show ¬ ((i : Int) < (s.size : Int)) by omega), if_pos (show (i : Int) > (j : Int) by omega), if_pos (show 0 ≤ (j : Int) by omega), if_pos (show (j : Int) ≤ (i : Int) by omega), if_pos (show (i : Int) ≤ (s.size : Int) by omega), if_pos (show acc.length < 4398046511104 by omega), cg i (by omega), bY]; exact h0 (i + 1) _ (by omega)
 | succ d ih =>
  have h1 : ∀ (i j : Nat) (acc : List S90), i + (d + 1) = s.size → j ≤ i → acc.length ≤ i → Ev (fun k => aY.l1 k s acc (i : Int) (j : Int)) (acc ++ (cE i (if j < i then some j else none) ((au s).drop i)).map (f4 s)) := by
   intro i j acc hi hj hacc; refine Ev.step (fun k => aY.l1.eq_2 _ _ _ _ _) ?_; simp only [if_pos (show ((i : Int) < (s.size : Int)) by omega), if_pos (show 0 ≤ (i : Int) by omega), gq s i (by omega), iN, Option.bind_some, decide_eq_true_eq, cg i (by omega)]; rw [de (au s) i (by omega)]; by_cases hw : fR (au s)[i]
   ·simp only [if_pos hw]; have := ih.2 (i + 1) j acc (by omega) (by omega) (by omega); by_cases hji : j < i
    ·simpa only [if_pos hji, cE, if_pos hw] using this
    ·obtain rfl : j = i := by omega
     simpa only [if_neg hji, cE, if_pos hw] using this
   ·simp only [if_neg hw]; by_cases hji : j < i
    ·simp only [if_pos hji, if_pos (show (i : Int) > (j : Int) by omega), if_pos (show 0 ≤ (j : Int) by omega), if_pos (show (j : Int) ≤ (i : Int) by omega), if_pos (show (i : Int) ≤ (s.size : Int) by omega), if_pos (show acc.length < 4398046511104 by omega), bY, cE, if_neg hw]; have := ih.1 (i + 1) (acc ++ [f4 s (j, i)]) (by omega) (by simp; omega); rw [List.append_assoc] at this; exact this
    ·simp only [if_neg hji, if_neg (show ¬ (i : Int) > (j : Int) by omega), cE, if_neg hw]; exact ih.1 (i + 1) acc (by omega) (by omega)
  constructor
  ·intro i acc hi hacc; refine Ev.step (fun k => aY.l0.eq_2 _ _ _ _) ?_; simp only [if_pos (show ((i : Int) < (s.size : Int)) by omega)]; have := h1 i i acc hi (Nat.le_refl _) hacc; simpa only [if_neg (Nat.lt_irrefl i)] using this
  ·intro i j acc hi hj hacc; have := h1 i j acc hi (by omega) hacc; simpa only [if_pos hj] using this
theorem lq (s : ByteArray) (hn : s.size < 1099511627776) : Ev (fun k => aY.f k s) (eP s) := by
 have := (mI s hn s.size).1 0 [] (by omega) (by simp); rw [List.nil_append, List.drop_zero] at this; exact this
theorem kN : ∀ (l : List Int) (p : Nat) (o : Option Nat), (cE p o l).length ≤ l.length + (if o.isSome then 1 else 0) := by
 intro l; induction l with
 | nil => intro p o; cases o <;> simp [cE]
 | cons c cs ih =>
  intro p o; cases o with
  | none =>
   by_cases h : fR c
   ·simp only [cE, if_pos h]; have := ih (p + 1) (some p); simp at this ⊢; omega
   ·simp only [cE, if_neg h]; have := ih (p + 1) none; simp at this ⊢; omega
  | some st =>
   by_cases h : fR c
   ·simp only [cE, if_pos h]; have := ih (p + 1) (some st); simp at this ⊢; omega
   ·simp only [cE, if_neg h]; have := ih (p + 1) none; simp at this ⊢; omega
theorem fv (s : ByteArray) : (eP s).length ≤ s.size := by
 unfold eP
 rw [List.length_map]; have := kN (au s) 0 none; rw [b6] at this; simpa using this
theorem lr (s : ByteArray) (hs : s.size ≤ 1048578) : Ev (fun k => bR.f k s) (fq s) := by
 simp only [bR.f]; have hl := fv s; refine Ev.bind (lq s (by omega)) ?_; exact ll (eP s) (by omega) (fun w hw => by have := gU s w hw; omega) (eP s).length 0 [] (by omega) (by simp)
theorem rl (c : Int) : dF c = if upP c then c + 32 else c := by
 unfold dF
 by_cases h : 65 ≤ c ∧ c ≤ 90
 ·rw [if_pos h, if_pos (show upP c from h)]
 ·rw [if_neg h, if_neg (show ¬ upP c from h)]
theorem ga (c : Int) (h0 : 0 ≤ c) (h1 : c ≤ 255) : cD.f c = some (if upP c then c + 32 else c) := by
 unfold cD.f
 by_cases h : upP c
 ·have h' : 65 ≤ c ∧ c ≤ 90 := h; rw [if_pos h'.1, if_pos h'.2, if_pos h]; congr 1; omega
 ·have h' : ¬ (65 ≤ c ∧ c ≤ 90) := h; rw [if_neg h]; by_cases h2 : c ≥ 65
  ·rw [if_pos h2, if_neg (by omega)]
  ·rw [if_neg h2]
theorem mL (s : ByteArray) (hn : s.size < 70368744177664) : ∀ (d i : Nat) (acc : List Int), i + d = s.size → acc.length ≤ i →
  Ev (fun k => b8.l0 k s acc (i : Int)) (strOfNums (acc ++ ((au s).drop i).map dF)) := by
 have hb := b6 s; have hr := eV s; intro d; induction d with
 | zero =>
  intro i acc hi hacc; refine Ev.step (fun k => b8.l0.eq_2 _ _ _ _) ?_; simp only [if_neg (show ¬ ((i : Int) < (s.size : Int)) by omega)]; rw [List.drop_of_length_le (by omega), List.map_nil, List.append_nil]; exact Ev.now _
 | succ d ih =>
  intro i acc hi hacc; have hc := hr (au s)[i] (List.getElem_mem _); refine Ev.step (fun k => b8.l0.eq_2 _ _ _ _) ?_; simp only [if_pos (show ((i : Int) < (s.size : Int)) by omega), if_pos (show 0 ≤ (i : Int) by omega), gq s i (by omega), ga _ hc.1 hc.2, Option.bind_some, if_pos (show acc.length < 140737488355328 by omega), cg i (by omega), ← rl]; have := ih (i + 1) (acc ++ [dF (au s)[i]]) (by omega) (by simp; omega); rw [de (au s) i (by omega), List.map_cons]; rw [List.append_assoc, List.singleton_append] at this; exact this
theorem mJ (s : ByteArray) (hn : s.size < 70368744177664) : Ev (fun k => b8.f k s) (eA s) := by
 have := mL s hn s.size 0 [] (by omega) (by simp); rw [List.nil_append, List.drop_zero] at this; exact this
open Classical in
theorem j3 (s : ByteArray) (l : List ByteArray) (hl : l.length < 100) : ∀ (d i : Nat), i + d = l.length → Ev (fun k => bq.l0 k s l (i : Int)) (decide (s ∈ l.drop i)) := by
 intro d; induction d with
 | zero =>
  intro i hi; refine Ev.step (fun k => bq.l0.eq_2 _ _ _ _) ?_; simp only [if_neg (show ¬ ((i : Int) < (l.length : Int)) by omega)]; refine cy (fun h => ?_) (Ev.now _); rw [List.drop_eq_nil_of_le (by omega)] at h; simp at h
 | succ d ih =>
  intro i hi; refine Ev.step (fun k => bq.l0.eq_2 _ _ _ _) ?_; have e := List.drop_eq_getElem_cons (l := l) (i := i) (by omega); simp only [if_pos (show ((i : Int) < (l.length : Int)) by omega), if_pos (show 0 ≤ (i : Int) by omega), kA l i (by omega), cg i (by omega), toList_inj]; by_cases h : l[i] = s
  ·simp only [if_pos h]; exact jT (by rw [e, h]; exact List.mem_cons_self ..) (Ev.now _)
  ·simp only [if_neg h]; refine cL ?_ (ih (i + 1) (by omega)); rw [e, List.mem_cons]; exact ⟨.inr, fun h2 => h2.resolve_left (fun h3 => h h3.symm)⟩
open Classical in
theorem gC (s : ByteArray) : Ev (fun k => bq.f k s) (decide (s ∈ cB)) := by
 simp only [bq.f]; exact j3 s cB (by decide) 6 0 rfl
open Classical in
theorem m0 (x : ByteArray) (hx : x.size ≤ 100) (b : Bool) (hb : b = true → 1 ≤ x.size) : Ev (fun k => bn.j1 k x (x.size : Int) b) (fc (if b = true then x.extract 0 (x.size - 1) else x)) := by
 refine Ev.step (fun k => bn.j1.eq_2 _ _ _ _) ?_; cases b with
 | false =>
  simp only [if_neg (show ¬ (false = true) by decide)]; refine Ev.bind (gC x) ?_; unfold fc
  by_cases h : x ∈ cB
  ·simp only [if_pos h, decide_eq_true h, if_true]; exact Ev.now _
  ·simp only [if_neg h, decide_eq_false h, if_neg (show ¬ (false = true) by decide)]; exact Ev.now _
 | true =>
  have h1 := hb rfl; simp only [if_true, cN (x := (x.size : Int) - 1) (by omega) (by omega), if_pos (show 0 ≤ (x.size : Int) - 1 by omega), if_pos (show (x.size : Int) - 1 ≤ (x.size : Int) by omega), show ((x.size : Int) - 1).toNat = x.size - 1 by omega]; refine Ev.bind (gC _) ?_; unfold fc
  by_cases h : x.extract 0 (x.size - 1) ∈ cB
  ·simp only [if_pos h, decide_eq_true h, if_true]; exact Ev.now _
  ·simp only [if_neg h, decide_eq_false h, if_neg (show ¬ (false = true) by decide)]; exact Ev.now _
theorem ig (x : ByteArray) (hx : x.size ≤ 100) : Ev (fun k => bn.j0 k x) (fc (noS x)) := by
 refine Ev.step (fun k => bn.j0.eq_2 _ _) ?_; have key : ∀ b : Bool, b = iD x → Ev (fun k => bn.j1 k x (x.size : Int) b) (fc (noS x)) := by
  intro b hb; have := m0 x hx b (fun h => by
   rw [hb] at h; have := (of_decide_eq_true h).1; omega)
  rw [hb] at this ⊢; exact this
 by_cases h3 : (x.size : Int) > 3
 ·simp only [if_pos h3, cN (x := (x.size : Int) - 1) (by omega) (by omega), cN (x := (x.size : Int) - 2) (by omega) (by omega), if_pos (show 0 ≤ (x.size : Int) - 1 by omega), if_pos (show (x.size : Int) - 1 < (x.size : Int) by omega), if_pos (show 0 ≤ (x.size : Int) - 2 by omega), if_pos (show (x.size : Int) - 2 < (x.size : Int) by omega)]; by_cases h4 : bt x ((x.size : Int) - 1) = 115
  ·simp only [if_pos h4]; refine key _ ?_; unfold iD
   by_cases h5 : bt x ((x.size : Int) - 2) = 115
   ·rw [decide_eq_false (fun h => h.2.2 h5)]; simp [h5]
   ·rw [decide_eq_true ⟨by omega, h4, h5⟩]; simp [h5]
  ·simp only [if_neg h4]; refine key _ ?_; unfold iD
   rw [decide_eq_false (fun h => h4 h.2.1)]
 ·simp only [if_neg h3]; refine key _ ?_; unfold iD
  rw [decide_eq_false (fun h => by have := h.1; omega)]
theorem oz (w : ByteArray) (h : 12 < w.size) : gi w = w.extract 0 12 := by unfold gi; rw [Nat.min_eq_right (by omega)]
theorem mY (w : ByteArray) : w.extract 0 w.size = w := by
 apply ByteArray.ext
 rw [ByteArray.data_extract]; exact Array.extract_size
theorem nu (w : ByteArray) (h : w.size ≤ 12) : gi w = w := by unfold gi; rw [Nat.min_eq_left h]; exact mY w
theorem mv (s : ByteArray) (hs : s.size < 70368744177664) : Ev (fun k => bn.f k s) (gn s) := by
 simp only [bn.f]; have hz := k5 s; refine Ev.bind (mJ s hs) ?_; unfold gn
 by_cases h : ((eA s).size : Int) > 12
 ·simp only [if_pos h, if_pos (show (0 : Int) ≤ 12 by omega), if_pos (show (12 : Int) ≤ ((eA s).size : Int) by omega)]; rw [oz _ (by omega)]; exact ig _ (by rw [extract_size _ _ (by omega)]; omega)
 ·simp only [if_neg h]; rw [nu _ (by omega)]; exact ig _ (by omega)
theorem lL (l : List S90) (hn : l.length ≤ 1048578) (hs : ∀ w ∈ l, w.f0.size < 70368744177664) : ∀ (d i : Nat) (acc : List ByteArray), i + d = l.length → acc.length ≤ i →
  Ev (fun k => bQ.l0 k acc l (i : Int)) (acc ++ (l.drop i).map (fun w => gn w.f0)) := by
 intro d; induction d with
 | zero =>
  intro i acc hi ha; refine Ev.step (fun k => bQ.l0.eq_2 _ _ _ _) ?_; simp only [if_neg (show ¬ ((i : Int) < (l.length : Int)) by omega)]; rw [List.drop_eq_nil_of_le (by omega), List.map_nil, List.append_nil]; exact Ev.now _
 | succ d ih =>
  intro i acc hi ha; refine Ev.step (fun k => bQ.l0.eq_2 _ _ _ _) ?_; simp only [if_pos (show ((i : Int) < (l.length : Int)) by omega), if_pos (show 0 ≤ (i : Int) by omega), jz l i (by omega), cg i (by omega)]; refine Ev.bind (mv _ (hs _ (List.getElem_mem (by omega)))) ?_; simp only [if_pos (show acc.length < 8796093022208 by omega)]; have := ih (i + 1) (acc ++ [gn l[i].f0]) (by omega) (by simp; omega); rw [de l i (by omega), List.map_cons]; rw [List.append_assoc] at this; exact this
theorem gv (c : Int) (h0 : 0 ≤ c) (h1 : c ≤ 255) : dI.f c = some (decide (fR c)) := by
 simp only [dI.f, ga c h0 h1, Option.bind_some]; by_cases h : upP c
 ·have h' : 65 ≤ c ∧ c ≤ 90 := h; simp only [if_pos h, if_pos (show c + 32 ≥ 97 by omega), if_pos (show c + 32 ≤ 122 by omega)]; congr 1; symm; exact decide_eq_true (.inl h)
 ·have h' : ¬ (65 ≤ c ∧ c ≤ 90) := h; simp only [if_neg h]; by_cases h2 : c ≥ 97
  ·simp only [if_pos h2]; by_cases h3 : c ≤ 122
   ·simp only [if_pos h3]; congr 1; symm; exact decide_eq_true (.inr (.inl ⟨h2, h3⟩))
   ·simp only [if_neg h3, if_pos (show c ≥ 48 by omega)]; congr 1; exact decide_eq_decide.2 ⟨fun h4 => .inr (.inr ⟨by omega, h4⟩), fun h4 => by rcases h4 with h4 | h4 | h4; exact absurd h4 h; exact absurd h4.2 h3; exact h4.2⟩
  ·simp only [if_neg h2]; by_cases h3 : c ≥ 48
   ·simp only [if_pos h3]; congr 1; exact decide_eq_decide.2 ⟨fun h4 => .inr (.inr ⟨by omega, h4⟩), fun h4 => by rcases h4 with h4 | h4 | h4; exact absurd h4 h; exact absurd h4.1 h2; exact h4.2⟩
   ·simp only [if_neg h3]; congr 1; symm; exact decide_eq_false (fun h4 => by rcases h4 with h4 | h4 | h4; exact absurd h4 h; exact absurd h4.1 h2; exact absurd h4.1 h3)
theorem mZ (s : ByteArray) (hn : s.size < 1099511627776) : ∀ (d : Nat),
  (∀ (i : Nat) (acc : List S90), i + d = s.size → acc.length ≤ i → Ev (fun k => aT.l0 k s acc (i : Int)) (acc ++ (cE i none ((au s).drop i)).map (f4 s))) ∧
  (∀ (i j : Nat) (acc : List S90), i + d = s.size → j < i → acc.length ≤ j → Ev (fun k => aT.l1 k s acc (j : Int) (i : Int)) (acc ++ (cE i (some j) ((au s).drop i)).map (f4 s))) := by
 have hb := b6 s; intro d; induction d with
 | zero =>
  have h0 : ∀ (i : Nat) (acc : List S90), s.size ≤ i → Ev (fun k => aT.l0 k s acc (i : Int)) acc := by
   intro i acc hi; refine Ev.step (fun k => aT.l0.eq_2 _ _ _ _) ?_; simp only [if_neg (show ¬ ((i : Int) < (s.size : Int)) by omega)]; exact Ev.now _
  constructor
  ·intro i acc hi hacc; rw [List.drop_of_length_le (by omega)]; simpa [cE] using h0 i acc (by omega)
  ·intro i j acc hi hj hacc; rw [List.drop_of_length_le (by omega)]; refine Ev.step (fun k => aT.l1.eq_2 _ _ _ _ _) ?_; simp only [if_neg (show ¬ ((i : Int) < (s.size : Int)) by omega), if_neg (show ¬ (i : Int) = (j : Int) by omega), if_pos (show 0 ≤ (j : Int) by omega), if_pos (show (j : Int) ≤ (i : Int) by omega), if_pos (show (i : Int) ≤ (s.size : Int) by omega), if_pos (show acc.length < 4398046511104 by omega), bY]; exact h0 i _ (by omega)
 | succ d ih =>
  have hr : ∀ c ∈ au s, 0 ≤ c ∧ c ≤ 255 := eV s; have hstep : ∀ (i : Nat) (acc : List S90), i + (d + 1) = s.size → acc.length ≤ i → Ev (fun k => aT.l0 k s acc (i : Int)) (acc ++ (cE i none ((au s).drop i)).map (f4 s)) := by
   intro i acc hi hacc; have hc := hr (au s)[i] (List.getElem_mem _); refine Ev.step (fun k => aT.l0.eq_2 _ _ _ _) ?_; simp only [if_pos (show ((i : Int) < (s.size : Int)) by omega)]; refine Ev.step (fun k => aT.l1.eq_2 _ _ _ _ _) ?_; simp only [if_pos (show ((i : Int) < (s.size : Int)) by omega), if_pos (show 0 ≤ (i : Int) by omega), gq s i (by omega), gv _ hc.1 hc.2, Option.bind_some, decide_eq_true_eq, cg i (by omega), if_true]; rw [de (au s) i (by omega)]; by_cases hw : fR (au s)[i]
   ·simp only [if_pos hw, cE]; exact ih.2 (i + 1) i acc (by omega) (by omega) (by omega)
   ·simp only [if_neg hw, cE]; exact ih.1 (i + 1) acc (by omega) (by omega)
  refine ⟨hstep, ?_⟩; intro i j acc hi hj hacc; have hc := hr (au s)[i] (List.getElem_mem _); refine Ev.step (fun k => aT.l1.eq_2 _ _ _ _ _) ?_; simp only [if_pos (show ((i : Int) < (s.size : Int)) by omega), if_pos (show 0 ≤ (i : Int) by omega), gq s i (by omega), gv _ hc.1 hc.2, Option.bind_some, decide_eq_true_eq, cg i (by omega)]; have hd := de (au s) i (by omega); by_cases hw : fR (au s)[i]
  ·rw [hd]; simp only [if_pos hw, cE]; exact ih.2 (i + 1) j acc (by omega) (by omega) (by omega)
  ·simp only [if_neg hw, if_neg (show ¬ (i : Int) = (j : Int) by omega), if_pos (show 0 ≤ (j : Int) by omega), if_pos (show (j : Int) ≤ (i : Int) by omega), if_pos (show (i : Int) ≤ (s.size : Int) by omega), if_pos (show acc.length < 4398046511104 by omega), bY]; have := hstep i (acc ++ [f4 s (j, i)]) hi (by simp; omega); rw [hd] at this ⊢; simp only [cE, if_neg hw, List.append_assoc] at this ⊢; exact this
theorem ls (s : ByteArray) (hn : s.size < 1099511627776) : Ev (fun k => aT.f k s) (eP s) := by
 have := (mZ s hn s.size).1 0 [] (by omega) (by simp); rw [List.nil_append, List.drop_zero] at this; exact this
theorem lM (s : ByteArray) (hs : s.size ≤ 1048578) : Ev (fun k => bQ.f k s) (fq s) := by
 simp only [bQ.f]; have hl := fv s; refine Ev.bind (ls s (by omega)) ?_; exact lL (eP s) (by omega) (fun w hw => by have := gU s w hw; omega) (eP s).length 0 [] (by omega) (by simp)
theorem lA (s : ByteArray) : (fq s).length = (eP s).length := List.length_map ..
def jh (p : ByteArray × ByteArray) (id x : Int) : S76 := ⟨p.1, p.2, [⟨id, [x]⟩]⟩
def le (id x : Int) (e : S76) : S76 := ⟨e.f0, e.f1, eZ e.f2 id x⟩
open Classical in
noncomputable def ej (p : ByteArray × ByteArray) (id x : Int) : List S76 → List S76
 | [] => [jh p id x]
 | e :: l => if ltP (cQ e) p then e :: ej p id x l else if cQ e = p then le id x e :: l else jh p id x :: e :: l
noncomputable def kG (id : Int) (name : ByteArray) : List ByteArray → Int → List S76 → List S76
 | [], _, L => L
 | t :: ts, x, L => kG id name ts (x + 1) (if t.size = 0 then L else ej (name, t) id x L)
open Classical in
noncomputable def gP (p : ByteArray × ByteArray) (id x : Int) (l : List S76) : List S76 :=
 if ∃ e ∈ l, cQ e = p then l.map (fun e => if cQ e = p then le id x e else e) else l ++ [jh p id x]
theorem me {p : ByteArray × ByteArray} {id x : Int} {l : List S76} (h : ∀ e ∈ l, cQ e ≠ p) : l.map (fun e => if cQ e = p then le id x e else e) = l := by
 have : l.map (fun e => if cQ e = p then le id x e else e) = l.map (fun e => e) := List.map_congr_left (fun e he => if_neg (h e he)); rw [this, List.map_id']
def jY (l : List S76) : Prop := l.Pairwise (fun a b => ltP (cQ a) (cQ b))
theorem lX (p : ByteArray × ByteArray) (id x : Int) : ∀ {l : List S76}, jY l → (ej p id x l).Perm (gP p id x l)
 | [], _ => by
  rw [ej, gP, if_neg (by simp)]; exact List.Perm.refl _
 | e :: l, h => by
  obtain ⟨h1, h2⟩ := List.pairwise_cons.1 h; have ih := lX p id x h2; rw [ej]; split
  ·rename_i hlt
   have hne : cQ e ≠ p := fun he => fw _ (by rw [← he] at hlt; exact hlt)
   have e2 : gP p id x (e :: l) = e :: gP p id x l := by
    unfold gP
    by_cases hc : ∃ y ∈ l, cQ y = p
    ·rw [if_pos hc, if_pos (by obtain ⟨y, hy, hk⟩ := hc; exact ⟨y, List.mem_cons_of_mem _ hy, hk⟩), List.map_cons, if_neg hne]
    ·rw [if_neg hc, if_neg (fun ⟨y, hy, hk⟩ => by
      rcases List.mem_cons.1 hy with hy | hy
      ·exact hne (by rw [← hy]; exact hk)
      ·exact hc ⟨y, hy, hk⟩)]
     rfl
   rw [e2]; exact ih.cons _
  ·rename_i hlt
   split
   ·rename_i heq
    have hno : ∀ y ∈ l, cQ y ≠ p := fun y hy hk => fw _ (by have := h1 y hy; rw [heq, hk] at this; exact this)
    have e2 : gP p id x (e :: l) = le id x e :: l := by
     unfold gP
     rw [if_pos ⟨e, by simp, heq⟩, List.map_cons, if_pos heq, me hno]
    rw [e2]
   ·rename_i hne
    have hgt : ltP p (cQ e) := by
     rcases fQ (cQ e) p with h | h | h
     ·exact absurd h hlt
     ·exact absurd h hne
     ·exact h
    have hno : ∀ y ∈ e :: l, cQ y ≠ p := fun y hy hk => by
     rcases List.mem_cons.1 hy with hy | hy
     ·exact hne (by rw [← hy]; exact hk)
     ·exact fw _ (by have := fh hgt (h1 y hy); rw [hk] at this; exact this)
    have e2 : gP p id x (e :: l) = (e :: l) ++ [jh p id x] := by
     unfold gP
     rw [if_neg (fun ⟨y, hy, hk⟩ => hno y hy hk)]
    rw [e2]; exact (List.perm_append_singleton _ _).symm
theorem nl {p : ByteArray × ByteArray} {id x : Int} : ∀ {l : List S76} {y : S76}, y ∈ ej p id x l → cQ y = p ∨ ∃ e ∈ l, cQ y = cQ e
 | [], y, h => by
  rw [ej, List.mem_singleton] at h; exact .inl (by rw [h]; rfl)
 | e :: l, y, h => by
  rw [ej] at h; split at h
  ·rcases List.mem_cons.1 h with h | h
   ·exact .inr ⟨e, by simp, by rw [h]⟩
   ·rcases nl h with h | ⟨z, hz, h⟩
    ·exact .inl h
    ·exact .inr ⟨z, List.mem_cons_of_mem _ hz, h⟩
  ·split at h
   ·rcases List.mem_cons.1 h with h | h
    ·exact .inr ⟨e, by simp, by rw [h]; rfl⟩
    ·exact .inr ⟨y, List.mem_cons_of_mem _ h, rfl⟩
   ·rcases List.mem_cons.1 h with h | h
    ·exact .inl (by rw [h]; rfl)
    ·exact .inr ⟨y, h, rfl⟩
theorem jB (p : ByteArray × ByteArray) (id x : Int) : ∀ {l : List S76}, jY l → jY (ej p id x l)
 | [], _ => by rw [ej]; exact List.pairwise_singleton _ _
 | e :: l, h => by
  obtain ⟨h1, h2⟩ := List.pairwise_cons.1 h; rw [ej]; split
  ·rename_i hlt
   refine List.pairwise_cons.2 ⟨fun y hy => ?_, jB p id x h2⟩; rcases nl hy with hy | ⟨z, hz, hy⟩
   ·rw [hy]; exact hlt
   ·rw [hy]; exact h1 z hz
  ·rename_i hlt
   split
   ·exact List.pairwise_cons.2 ⟨h1, h2⟩
   ·rename_i hne
    have hgt : ltP p (cQ e) := by
     rcases fQ (cQ e) p with h | h | h
     ·exact absurd h hlt
     ·exact absurd h hne
     ·exact h
    refine List.pairwise_cons.2 ⟨fun y hy => ?_, h⟩; rcases List.mem_cons.1 hy with hy | hy
    ·rw [hy]; exact hgt
    ·exact fh hgt (h1 y hy)
theorem pK {p : ByteArray × ByteArray} {id x : Int} {l m : List S76} (h : l.Perm m) : (gP p id x l).Perm (gP p id x m) := by
 unfold gP
 by_cases hc : ∃ e ∈ l, cQ e = p
 ·rw [if_pos hc, if_pos (by obtain ⟨e, he, hk⟩ := hc; exact ⟨e, h.mem_iff.1 he, hk⟩)]; exact h.map _
 ·rw [if_neg hc, if_neg (fun ⟨e, he, hk⟩ => hc ⟨e, h.mem_iff.2 he, hk⟩)]; exact h.append_right _
theorem k3 {p : ByteArray × ByteArray} {id x : Int} : ∀ {G : List ((ByteArray × ByteArray) × List S50)} {y : ByteArray × ByteArray}, y ∈ (PFnExactIndexOk.stepG G p id x).map (·.1) → y = p ∨ y ∈ G.map (·.1)
 | [], y, h => by
  rw [PFnExactIndexOk.stepG] at h; exact .inl (by simpa using h)
 | g :: G, y, h => by
  rw [PFnExactIndexOk.stepG] at h; split at h
  ·rename_i heq
   rw [List.map_cons] at h; rcases List.mem_cons.1 h with h | h
   ·exact .inl h
   ·exact .inr (by rw [List.map_cons]; exact List.mem_cons_of_mem _ h)
  ·rw [List.map_cons] at h; rcases List.mem_cons.1 h with h | h
   ·exact .inr (by rw [List.map_cons, h]; exact List.mem_cons_self ..)
   ·rcases k3 h with h | h
    ·exact .inl h
    ·exact .inr (by rw [List.map_cons]; exact List.mem_cons_of_mem _ h)
theorem gl {p : ByteArray × ByteArray} {id x : Int} : ∀ {G : List ((ByteArray × ByteArray) × List S50)}, (G.map (·.1)).Nodup → ((PFnExactIndexOk.stepG G p id x).map (·.1)).Nodup
 | [], _ => by rw [PFnExactIndexOk.stepG]; simp
 | g :: G, hn => by
  rw [List.map_cons, List.nodup_cons] at hn; rw [PFnExactIndexOk.stepG]; split
  ·rename_i heq
   rw [List.map_cons, List.nodup_cons]; exact ⟨by show p ∉ _; rw [← heq]; exact hn.1, hn.2⟩
  ·rename_i hne
   rw [List.map_cons, List.nodup_cons]; refine ⟨fun h => ?_, gl hn.2⟩; rcases k3 h with h | h
   ·exact hne h
   ·exact hn.1 h
theorem kU {p : ByteArray × ByteArray} {id x : Int} : ∀ {G : List ((ByteArray × ByteArray) × List S50)}, (G.map (·.1)).Nodup → (PFnExactIndexOk.stepG G p id x).map toE = gP p id x (G.map toE)
 | [], _ => by
  rw [PFnExactIndexOk.stepG, gP, if_neg (by simp)]; rfl
 | g :: G, hn => by
  rw [List.map_cons, List.nodup_cons] at hn; have ih := kU (p := p) (id := id) (x := x) hn.2; have hkey : ∀ y : (ByteArray × ByteArray) × List S50, cQ (toE y) = y.1 := fun y => rfl
  rw [PFnExactIndexOk.stepG]; split
  ·rename_i heq
   have hno : ∀ y ∈ G.map toE, cQ y ≠ p := fun y hy hk => by
    obtain ⟨z, hz, rfl⟩ := List.mem_map.1 hy; rw [hkey] at hk; exact hn.1 (List.mem_map.2 ⟨z, hz, by rw [hk, heq]⟩)
   unfold gP
   rw [List.map_cons, List.map_cons, if_pos ⟨toE g, by simp, by rw [hkey]; exact heq⟩, List.map_cons, if_pos (by rw [hkey]; exact heq), me hno]; subst heq; rfl
  ·rename_i hne
   rw [List.map_cons, ih, List.map_cons]; unfold gP
   by_cases hc : ∃ y ∈ G.map toE, cQ y = p
   ·rw [if_pos hc, if_pos (by obtain ⟨y, hy, hk⟩ := hc; exact ⟨y, List.mem_cons_of_mem _ hy, hk⟩), List.map_cons, if_neg (by rw [hkey]; exact hne)]
   ·rw [if_neg hc, if_neg (fun ⟨y, hy, hk⟩ => by
     rcases List.mem_cons.1 hy with hy | hy
     ·rw [hy, hkey] at hk; exact hne hk
     ·exact hc ⟨y, hy, hk⟩)]
    rfl
theorem nf (G : List ((ByteArray × ByteArray) × List S50)) : (G.map toE).map cQ = G.map (·.1) := by
 rw [List.map_map]; rfl
theorem p3 {G : List ((ByteArray × ByteArray) × List S50)} (hn : (G.map (·.1)).Nodup) (p : ByteArray × ByteArray) (id x : Int) : ee ((PFnExactIndexOk.stepG G p id x).map toE) = ej p id x (ee (G.map toE)) := by
 have hs : jY (ee (G.map toE)) := fe _ (by rw [nf]; exact hn); refine iW ?_ (fe _ (by rw [nf]; exact gl hn)) (jB p id x hs); refine (fx _).trans ?_; rw [kU hn]; exact (pK (fx _).symm).trans (lX p id x hs).symm
theorem ia (id : Int) (name : ByteArray) : ∀ (ts : List ByteArray) (x : Int) (G : List ((ByteArray × ByteArray) × List S50)), (G.map (·.1)).Nodup →
  kG id name ts x (ee (G.map toE)) = ee ((fL id name ts x G).map toE) ∧ ((fL id name ts x G).map (·.1)).Nodup
 | [], _, G, hn => ⟨rfl, hn⟩
 | t :: ts, x, G, hn => by
  rw [kG, fL]; by_cases ht : t.size = 0
  ·rw [if_pos ht, if_pos ht]; exact ia id name ts (x + 1) G hn
  ·rw [if_neg ht, if_neg ht, ← p3 hn]; exact ia id name ts (x + 1) _ (gl hn)
def fT (c : Nat) (l : List S76) : Prop := l.length ≤ c ∧ ∀ e ∈ l, e.f2 ≠ [] ∧ LenP c e.f2
theorem f7 {n : ByteArray} : ∀ {F : List S92}, (∀ x ∈ F, x.f0 ≠ n) → em n F = (⟨#[]⟩, 0, 0)
 | [], _ => rfl
 | f :: F, h => by
  rw [em, if_neg (h f (by simp))]; exact f7 (fun x hx => h x (List.mem_cons_of_mem _ hx))
theorem fX {n : ByteArray} : ∀ {F : List S92} {j : Nat} (hj : j < F.length), F[j].f0 = n → (∀ m (hm : m < j), F[m].f0 ≠ n) → em n F = (F[j].f0, F[j].f1, F[j].f2)
 | [], _, hj, _, _ => by simp at hj
 | f :: F, 0, _, h, _ => by
  rw [em]; have h' : f.f0 = n := h; rw [if_pos h']; rfl
 | f :: F, j + 1, hj, h, hb => by
  have h0 : f.f0 ≠ n := hb 0 (by omega); rw [em, if_neg h0]; exact fX (F := F) (j := j) (by simpa using hj) (by simpa using h) (fun m hm => by have := hb (m + 1) (by omega); simpa using this)
theorem jR (l : List S92) (n : ByteArray) (hn : l.length < 4611686018427387904) : ∀ (d i : Nat), i + d = l.length → (∀ m (hm : m < l.length), m < i → l[m].f0 ≠ n) →
  ∃ r, Ev (fun k => aV.l0 k l n (i : Int)) r ∧ ((r = -1 ∧ ∀ x ∈ l, x.f0 ≠ n) ∨ ∃ (j : Nat) (hj : j < l.length), r = (j : Int) ∧ l[j].f0 = n ∧ ∀ m (hm : m < j), l[m].f0 ≠ n) := by
 intro d; induction d with
 | zero =>
  intro i hi hb; refine ⟨-1, Ev.step (fun k => aV.l0.eq_2 _ _ _ _) ?_, .inl ⟨rfl, fun x hx => ?_⟩⟩
  ·simp only [if_neg (show ¬ ((i : Int) < (l.length : Int)) by omega)]; exact Ev.now _
  ·obtain ⟨m, hm, rfl⟩ := List.mem_iff_getElem.1 hx; exact hb m hm (by omega)
 | succ d ih =>
  intro i hi hb; by_cases h : l[i].f0 = n
  ·refine ⟨(i : Int), Ev.step (fun k => aV.l0.eq_2 _ _ _ _) ?_, .inr ⟨i, by omega, rfl, h, fun m hm => hb m (by omega) hm⟩⟩; simp only [if_pos (show ((i : Int) < (l.length : Int)) by omega), if_pos (show 0 ≤ (i : Int) by omega), en l i (by omega), toList_inj, if_pos h]; exact Ev.now _
  ·obtain ⟨r, hr, hq⟩ := ih (i + 1) (by omega) (fun m hm hlt => by
    rcases Nat.lt_or_ge m i with h1 | h1
    ·exact hb m hm h1
    ·obtain rfl : m = i := by omega
     exact h)
   refine ⟨r, Ev.step (fun k => aV.l0.eq_2 _ _ _ _) ?_, hq⟩; simp only [if_pos (show ((i : Int) < (l.length : Int)) by omega), if_pos (show 0 ≤ (i : Int) by omega), en l i (by omega), toList_inj, if_neg h, cg i (by omega)]; exact hr
theorem fb (l : List S92) (n : ByteArray) (hn : l.length < 4611686018427387904) :
  ∃ r, Ev (fun k => aV.f k l n) r ∧ ((r = -1 ∧ ∀ x ∈ l, x.f0 ≠ n) ∨ ∃ (j : Nat) (hj : j < l.length), r = (j : Int) ∧ l[j].f0 = n ∧ ∀ m (hm : m < j), l[m].f0 ≠ n) :=
 jR l n hn l.length 0 (by omega) (fun m hm h => absurd h (by omega))
theorem jM (F : List S92) (hF : F.length ≤ 1048576) (n : ByteArray) : Ev (fun k => dm.f k F n 1) (eo F n == 1) := by
 simp only [dm.f]; obtain ⟨r, hr, hq⟩ := fb F n (by omega); refine Ev.bind hr ?_; rcases hq with ⟨rfl, h⟩ | ⟨j, hj, rfl, h1, h2⟩
 ·simp only [if_neg (show ¬ ((-1 : Int) ≥ 0) by omega), eo, f7 h]; exact Ev.now _
 ·simp only [if_pos (show ((j : Int) ≥ 0) by omega), if_pos (show (0 : Int) ≤ (j : Int) by omega), if_pos (show ((j : Int) < (F.length : Int)) by omega), en F j hj, eo, fX hj h1 h2]; exact Ev.now _
theorem ib {c d : Nat} {l : List S76} (h : fT c l) (hd : c ≤ d) : fT d l :=
 ⟨by have := h.1; omega, fun e he => ⟨(h.2 e he).1, by have := (h.2 e he).2.1; omega, fun q hq => by have := (h.2 e he).2.2 q hq; omega⟩⟩
theorem rp (ps : List S50) (id x : Int) : eZ ps id x ≠ [] := by
 unfold eZ
 cases hl : ps.getLast? with
 | none => simp
 | some q =>
  simp only; split
  ·intro h; have := congrArg List.length h; rw [List.length_set] at this; have h2 : ps = [] := List.eq_nil_of_length_eq_zero this; rw [h2] at hl; simp at hl
  ·simp
theorem kz {c : Nat} {p : ByteArray × ByteArray} {id x : Int} : ∀ {l : List S76}, (∀ e ∈ l, e.f2 ≠ [] ∧ LenP c e.f2) → (ej p id x l).length ≤ l.length + 1 ∧ ∀ e ∈ ej p id x l, e.f2 ≠ [] ∧ LenP (c + 1) e.f2
 | [], _ => by
  rw [ej]; exact ⟨by simp, fun e he => by rw [List.mem_singleton] at he; rw [he]; exact ⟨by simp [jh], by simp [jh, LenP]⟩⟩
 | y :: l, h => by
  have hw : ∀ e ∈ l, e.f2 ≠ [] ∧ LenP (c + 1) e.f2 := fun e he => by
   have := h e (List.mem_cons_of_mem _ he); exact ⟨this.1, by have := this.2.1; omega, fun q hq => by have := this.2.2 q hq; omega⟩
  have hy := h y (by simp); have hy2 : y.f2 ≠ [] ∧ LenP (c + 1) y.f2 := ⟨hy.1, by have := hy.2.1; omega, fun q hq => by have := hy.2.2 q hq; omega⟩; rw [ej]; split
  ·have ih := kz (c := c) (p := p) (id := id) (x := x) (l := l) (fun e he => h e (List.mem_cons_of_mem _ he)); refine ⟨by simp; exact ih.1, fun e he => ?_⟩; rcases List.mem_cons.1 he with he | he
   ·rw [he]; exact hy2
   ·exact ih.2 e he
  ·split
   ·refine ⟨by simp, fun e he => ?_⟩; rcases List.mem_cons.1 he with he | he
    ·rw [he]; exact ⟨rp _ _ _, LenP.step hy.2 id x⟩
    ·exact hw e he
   ·refine ⟨by simp, fun e he => ?_⟩; rcases List.mem_cons.1 he with he | he
    ·rw [he]; exact ⟨by simp [jh], by simp [jh, LenP]⟩
    ·rcases List.mem_cons.1 he with he | he
     ·rw [he]; exact hy2
     ·exact hw e he
theorem od {c : Nat} {l : List S76} (h : fT c l) (p : ByteArray × ByteArray) (id x : Int) : fT (c + 1) (ej p id x l) := by
 have := kz (c := c) (p := p) (id := id) (x := x) h.2; exact ⟨by have := h.1; omega, this.2⟩
theorem fZ : ∀ (x y : List UInt8), Op.bytesLess x y = decide (x < y)
 | [], [] => by simp [Op.bytesLess]
 | _ :: _, [] => by simp [Op.bytesLess]
 | [], _ :: _ => by simp [Op.bytesLess]
 | a :: x, b :: y => by
  rw [Op.bytesLess, fZ x y]; simp only [List.cons_lt_cons_iff]; by_cases h1 : a < b <;> by_cases h2 : a = b <;> by_cases h3 : x < y <;> simp [h1, h2, h3]
theorem iX (l : List S76) (j : Nat) (h : j < l.length) : ax l (j : Int) = l[j] := by
 unfold ax; simp [List.getD_eq_getElem?_getD, List.getElem?_eq_getElem h]
theorem rC (l : List S76) (p : ByteArray × ByteArray) (id x : Int) (hn : l.length ≤ 1099511627776) : ∀ (d i : Nat), i + d = l.length →
  ∃ (j : Nat) (b : Bool), Ev (fun k => bw.l0 k l p.1 p.2 (i : Int)) ((j : Int), b) ∧ i ≤ j ∧ j ≤ l.length ∧ (b = true → ∃ h : j < l.length, ej p id x (l.drop i) = (l.drop i).set (j - i) (le id x l[j])) ∧
   (b = false → ej p id x (l.drop i) = (l.drop i).take (j - i) ++ [jh p id x] ++ l.drop j) := by
 intro d; induction d with
 | zero =>
  intro i hi; refine ⟨i, false, Ev.step (fun k => bw.l0.eq_2 _ _ _ _ _) ?_, Nat.le_refl _, by omega, fun h => (by cases h), fun _ => ?_⟩
  ·simp only [if_neg (show ¬ ((i : Int) < (l.length : Int)) by omega)]; exact Ev.now _
  ·rw [List.drop_eq_nil_of_le (by omega), ej]; simp
 | succ d ih =>
  intro i hi; have hil : i < l.length := by omega
  have hlt : ltP (cQ l[i]) p ↔ (l[i].f0.toList < p.1.toList ∨ l[i].f0.toList = p.1.toList ∧ l[i].f1.toList < p.2.toList) := Iff.rfl; have next : ltP (cQ l[i]) p → ∃ (j : Nat) (b : Bool), Ev (fun k => bw.l0 k l p.1 p.2 ((i + 1 : Nat) : Int)) ((j : Int), b) ∧ i ≤ j ∧ j ≤ l.length ∧ (b = true → ∃ h : j < l.length, ej p id x (l.drop i) = (l.drop i).set (j - i) (le id x l[j])) ∧
   (b = false → ej p id x (l.drop i) = (l.drop i).take (j - i) ++ [jh p id x] ++ l.drop j) := by
   intro h; obtain ⟨j, b, h1, h2, h3, h4, h5⟩ := ih (i + 1) (by omega); have e1 : ej p id x (l.drop i) = l[i] :: ej p id x (l.drop (i + 1)) := by rw [de l i hil, ej, if_pos h]
   have e2 : j - i = (j - (i + 1)) + 1 := by omega
   refine ⟨j, b, h1, by omega, h3, fun hb => ?_, fun hb => ?_⟩
   ·obtain ⟨hj, h4⟩ := h4 hb; exact ⟨hj, by rw [e1, h4, e2, de l i hil, List.set_cons_succ]⟩
   ·rw [e1, h5 hb, e2, de l i hil, List.take_succ_cons]; rfl
  have stop : ∀ b : Bool, ¬ ltP (cQ l[i]) p → (b = true ↔ cQ l[i] = p) → ∃ (j : Nat) (b' : Bool), Ev (fun _ : Nat => some ((i : Int), b)) ((j : Int), b') ∧ i ≤ j ∧ j ≤ l.length ∧ (b' = true → ∃ h : j < l.length, ej p id x (l.drop i) = (l.drop i).set (j - i) (le id x l[j])) ∧
   (b' = false → ej p id x (l.drop i) = (l.drop i).take (j - i) ++ [jh p id x] ++ l.drop j) := by
   intro b h hb; refine ⟨i, b, Ev.now _, Nat.le_refl _, by omega, fun hb' => ⟨hil, ?_⟩, fun hb' => ?_⟩
   ·rw [Nat.sub_self, de l i hil, ej, if_neg h, if_pos (hb.1 hb'), List.set_cons_zero]
   ·have hk : cQ l[i] ≠ p := fun hk => by rw [hb.2 hk] at hb'; cases hb'
    rw [Nat.sub_self, de l i hil, ej, if_neg h, if_neg hk, List.take_zero]; rfl
  have lift : ∀ {g : Nat → Option (Int × Bool)}, (∃ (j : Nat) (b : Bool), Ev g ((j : Int), b) ∧ i ≤ j ∧ j ≤ l.length ∧ (b = true → ∃ h : j < l.length, ej p id x (l.drop i) = (l.drop i).set (j - i) (le id x l[j])) ∧
   (b = false → ej p id x (l.drop i) = (l.drop i).take (j - i) ++ [jh p id x] ++ l.drop j)) → (∀ k, bw.l0 (k + 1) l p.1 p.2 (i : Int) = g k) → ∃ (j : Nat) (b : Bool), Ev (fun k => bw.l0 k l p.1 p.2 (i : Int)) ((j : Int), b) ∧ i ≤ j ∧ j ≤ l.length ∧ (b = true → ∃ h : j < l.length, ej p id x (l.drop i) = (l.drop i).set (j - i) (le id x l[j])) ∧
   (b = false → ej p id x (l.drop i) = (l.drop i).take (j - i) ++ [jh p id x] ++ l.drop j) := by
   intro g ⟨j, b, h1, h2⟩ he; exact ⟨j, b, Ev.step he h1, h2⟩
  have hgo : ∀ k, bw.l0 (k + 1) l p.1 p.2 (i : Int) = if Op.bytesLess l[i].f0.toList p.1.toList = true then bw.l0 k l p.1 p.2 ((i + 1 : Nat) : Int) else if l[i].f0.toList = p.1.toList then if Op.bytesLess l[i].f1.toList p.2.toList = true then bw.l0 k l p.1 p.2 ((i + 1 : Nat) : Int) else some ((i : Int), l[i].f1.toList == p.2.toList) else some ((i : Int), false) := by
   intro k; rw [bw.l0.eq_2]; simp only [if_pos (show ((i : Int) < (l.length : Int)) by omega), if_pos (show 0 ≤ (i : Int) by omega), iX l i hil, cg i (by omega)]
  by_cases c1 : l[i].f0.toList < p.1.toList
  ·refine lift (next (hlt.2 (.inl c1))) (fun k => ?_); rw [hgo k, if_pos (by rw [fZ]; exact decide_eq_true c1)]
  ·by_cases c2 : l[i].f0.toList = p.1.toList
   ·by_cases c3 : l[i].f1.toList < p.2.toList
    ·refine lift (next (hlt.2 (.inr ⟨c2, c3⟩))) (fun k => ?_); rw [hgo k, if_neg (by rw [fZ]; simpa using c1), if_pos c2, if_pos (by rw [fZ]; exact decide_eq_true c3)]
    ·refine lift (stop (l[i].f1.toList == p.2.toList) (fun h => ?_) ?_) (fun k => ?_)
     ·rcases hlt.1 h with h | h
      ·exact c1 h
      ·exact c3 h.2
     ·rw [beq_iff_eq]; constructor
      ·intro h; exact Prod.ext (toList_inj.1 c2) (toList_inj.1 h)
      ·intro h; rw [← h]; rfl
     ·rw [hgo k, if_neg (by rw [fZ]; simpa using c1), if_pos c2, if_neg (by rw [fZ]; simpa using c3)]
   ·refine lift (stop false (fun h => ?_) ⟨fun h => (by cases h), fun h => absurd (by rw [← h]; rfl) c2⟩) (fun k => ?_)
    ·rcases hlt.1 h with h | h
     ·exact c1 h
     ·exact c2 h.1
    ·rw [hgo k, if_neg (by rw [fZ]; simpa using c1), if_neg c2]
theorem kt (l : List S76) (p : ByteArray × ByteArray) (id x : Int) (hg : fT 999999 l) : Ev (fun k => bN.f k l p.1 p.2 id x) (ej p id x l) := by
 have hlen := hg.1; obtain ⟨j, b, h1, _, h2, h3, h4⟩ := rC l p id x (by omega) l.length 0 (by omega); simp only [List.drop_zero, Nat.sub_zero] at h3 h4; have h1' : Ev (fun k => bw.f k l p.1 p.2) ((j : Int), b) := by simpa [bw.f] using h1
 simp only [bN.f]; refine Ev.bind h1' ?_; cases b with
 | true =>
  obtain ⟨hj, h3⟩ := h3 rfl; have he := hg.2 l[j] (List.getElem_mem hj); have hw : wide l[j].f2 = true := by
   unfold wide
   rw [Bool.and_eq_true, decide_eq_true_eq, List.all_eq_true]; exact ⟨by have := he.2.1; omega, fun q hq => by have := he.2.2 q hq; exact decide_eq_true (by omega)⟩
  simp only [if_true, bY, List.getElem?_eq_getElem hj]; rw [h3]; rw [if_pos ⟨by omega, he.1, hw⟩]; exact Ev.now _
 | false =>
  simp only [if_neg (show ¬ (false = true) by decide), bY]; rw [h4 rfl, if_pos ⟨by omega, by omega, by omega⟩]; exact Ev.now _
theorem eS (id : Int) (name : ByteArray) : ∀ (ts : List ByteArray) (x : Int) (L : List S76) (c : Nat), fT c L → c + ts.length ≤ 1000000 →
  Ev (fun k => bo.ts k id name ts x L) (kG id name ts x L) ∧ fT (c + ts.length) (kG id name ts x L)
 | [], x, L, c, h, hc => ⟨gA (fun k => rfl), by simpa [kG] using h⟩
 | t :: ts, x, L, c, h, hc => by
  rw [List.length_cons] at hc; rw [kG]; by_cases ht : t.size = 0
  ·rw [if_pos ht]; have ih := eS id name ts (x + 1) L (c + 1) (ib h (by omega)) (by omega); refine ⟨?_, by have := ih.2; rw [List.length_cons]; rw [show c + 1 + ts.length = c + (ts.length + 1) by omega] at this; exact this⟩; simp only [bo.ts, if_pos ht]; exact ih.1
  ·rw [if_neg ht]; have ih := eS id name ts (x + 1) (ej (name, t) id x L) (c + 1) (od h _ _ _) (by omega); refine ⟨?_, by have := ih.2; rw [List.length_cons]; rw [show c + 1 + ts.length = c + (ts.length + 1) by omega] at this; exact this⟩; simp only [bo.ts, if_neg ht]; exact Ev.bind (kt L (name, t) id x (ib h (by omega))) ih.1
theorem re (w : ByteArray) : (noS w).size ≤ w.size := by
 unfold noS
 split
 ·rw [extract_size w _ (by omega)]; omega
 ·exact Nat.le_refl _
theorem nS (w : ByteArray) : (fc w).size ≤ w.size := by
 unfold fc
 split
 ·exact Nat.zero_le _
 ·exact Nat.le_refl _
theorem nW (s : ByteArray) : (gn s).size ≤ 12 := by
 have h1 := nS (noS (gi (eA s))); have h2 := re (gi (eA s)); have h3 := kx (eA s); unfold gn; omega
theorem mu (s : ByteArray) : ((fq s).all fun t => decide (t.size ≤ 1000000)) = true := by
 rw [List.all_eq_true]; intro t ht; obtain ⟨w, _, rfl⟩ := List.mem_map.1 ht; have := nW w.f0; exact decide_eq_true (by omega)
set_option maxRecDepth 20000 in
theorem jg (F : List S92) (hF : F.length ≤ 1048576) (id : Int) : ∀ (cs : List S86) (G : List ((ByteArray × ByteArray) × List S50)) (n : Nat), (G.map (·.1)).Nodup → fT n (ee (G.map toE)) → (∀ x ∈ cs, x.f0.size ≤ 1000000 ∧ x.f1.size ≤ 1000) → n + cs.length * 1000 ≤ 1000000 →
  ∃ (G' : List ((ByteArray × ByteArray) × List S50)) (n' : Nat), Ev (fun k => entriesW.cs k F id cs (G, n)) (G', n') ∧ Ev (fun k => bo.cs k F id cs (ee (G.map toE))) (ee (G'.map toE)) ∧ (G'.map (·.1)).Nodup ∧ fT n' (ee (G'.map toE)) ∧ n' ≤ n + cs.length * 1000
 | [], G, n, hn, hg, _, _ => ⟨G, n, gA (fun k => rfl), gA (fun k => rfl), hn, hg, by omega⟩
 | c :: cs, G, n, hn, hg, hs, hc => by
  rw [List.length_cons] at hc; have hsc := hs c (by simp); have hst := fun x hx => hs x (List.mem_cons_of_mem _ hx)
  simp only [entriesW.cs, bo.cs]; have hf := ge c.f0 F (by omega); have hk := jM F hF c.f0; by_cases h1 : eo F c.f0 = 1
  ·have hlen : (fq c.f1).length ≤ 1000 := by rw [lA]; have := fv c.f1; omega
   obtain ⟨hw1, hw2⟩ := eS id c.f0 (fq c.f1) 0 (ee (G.map toE)) n hg (by omega); obtain ⟨hf1, hf2⟩ := ia id c.f0 (fq c.f1) 0 G hn; rw [hf1] at hw1 hw2; obtain ⟨G', n', e1, e2, e3, e4, e5⟩ := jg F hF id cs (fL id c.f0 (fq c.f1) 0 G) (n + (fq c.f1).length) hf2 hw2 hst (by omega); refine ⟨G', n', ?_, ?_, e3, e4, by rw [List.length_cons]; omega⟩
   ·refine Ev.bind hf ?_; have h1' : (em c.f0 F).2.1 = 1 := h1; simp only [if_pos h1']; refine Ev.bind (lr c.f1 (by omega)) ?_; have hcond : n + (fq c.f1).length ≤ 1000000 ∧ c.f0.size ≤ 1000000 ∧ ((fq c.f1).all fun t => decide (t.size ≤ 1000000)) = true := ⟨by omega, by omega, mu _⟩; simp only [if_pos hcond]; exact e1
   ·refine Ev.bind hk ?_; simp only [h1, beq_self_eq_true, if_true]; refine Ev.bind (lM c.f1 (by omega)) ?_; exact Ev.bind hw1 e2
  ·obtain ⟨G', n', e1, e2, e3, e4, e5⟩ := jg F hF id cs G n hn hg hst (by omega); refine ⟨G', n', ?_, ?_, e3, e4, by rw [List.length_cons]; omega⟩
   ·refine Ev.bind hf ?_; have h1' : ¬ (em c.f0 F).2.1 = 1 := h1; simp only [if_neg h1']; exact e1
   ·refine Ev.bind hk ?_; rw [beq_eq_false_iff_ne.2 h1]; simp only [if_neg (show ¬ (false = true) by decide)]; exact e2
set_option maxRecDepth 20000 in
theorem lR (F : List S92) (hF : F.length ≤ 1048576) : ∀ (rs : List S46) (G : List ((ByteArray × ByteArray) × List S50)) (n : Nat), (G.map (·.1)).Nodup → fT n (ee (G.map toE)) → (∀ r ∈ rs, r.f1.f1.length ≤ 4 ∧ ∀ x ∈ r.f1.f1, x.f0.size ≤ 1000000 ∧ x.f1.size ≤ 1000) → n + rs.length * 4000 ≤ 1000000 →
  ∃ (G' : List ((ByteArray × ByteArray) × List S50)) (n' : Nat), Ev (fun k => entriesW.rs k F rs (G, n)) (G', n') ∧ Ev (fun k => br.rs k F rs (ee (G.map toE))) (ee (G'.map toE)) ∧ fT n' (ee (G'.map toE)) ∧ n' ≤ n + rs.length * 4000
 | [], G, n, hn, hg, _, _ => ⟨G, n, gA (fun k => rfl), gA (fun k => rfl), hg, by omega⟩
 | r :: rs, G, n, hn, hg, hs, hc => by
  rw [List.length_cons] at hc; have hsr := hs r (by simp); obtain ⟨G1, n1, e1, e2, e3, e4, e5⟩ := jg F hF r.f0 r.f1.f1 G n hn hg hsr.2 (by omega); obtain ⟨G2, n2, d1, d2, d4, d5⟩ := lR F hF rs G1 n1 e3 e4 (fun x hx => hs x (List.mem_cons_of_mem _ hx)) (by omega); refine ⟨G2, n2, ?_, ?_, d4, by rw [List.length_cons]; omega⟩
  ·simp only [entriesW.rs]; exact Ev.bind e1 d1
  ·simp only [br.rs]; exact Ev.bind e2 d2
theorem kj (F : List S92) (hF : F.length ≤ 1048576) (rs : List S46) (hs : ∀ r ∈ rs, r.f1.f1.length ≤ 4 ∧ ∀ x ∈ r.f1.f1, x.f0.size ≤ 1000000 ∧ x.f1.size ≤ 1000) (hc : rs.length ≤ 8) :
  ∃ L : List S76, Ev (fun k => cJ.f k F rs) L ∧ Ev (fun k => br.f k F rs) L ∧ fT 32000 L := by
 have hg : fT 0 (ee (([] : List ((ByteArray × ByteArray) × List S50)).map toE)) := ⟨Nat.le_refl _, fun e he => by cases he⟩; obtain ⟨G, n, e1, e2, e3, e4⟩ := lR F hF rs [] 0 List.nodup_nil hg hs (by omega); refine ⟨ee (G.map toE), ?_, ?_, ib e3 (by omega)⟩
 ·simp only [cJ.f, entriesW.f]; exact Ev.bind e1 (Ev.now _)
 ·simp only [br.f]; exact e2
theorem iy (l : List S46) (j : Nat) (h : j < l.length) : ab l (j : Int) = l[j] := by
 unfold ab; simp [List.getD_eq_getElem?_getD, List.getElem?_eq_getElem h]
def gZ (F : List S92) (R : List S46) (E : List S76) (n : Int) : Prop :=
 eW F = true ∧ R.length ≤ 8 ∧ (0 ≤ n ∧ n ≤ 999999999) ∧ Ev (fun k => br.f k F R) E
def m6 (F : List S92) (R : List S46) (n : Int) (i : Nat) (h : i < R.length) : Prop :=
 gj F R[i].f1.f0 R[i].f1.f1 = true ∧ eb R[i].f1.f0 0 R = (i : Int) ∧ (0 ≤ R[i].f0 ∧ R[i].f0 ≤ wrap64 (n - 1)) ∧ ∀ h0 : 0 < i, (R[i - 1]'(by omega)).f0 < R[i].f0
open Classical in
theorem kV {key : ByteArray} {l : List S86} (h : jw key l = true) : (∀ c ∈ l, eF (au c.f0) = true ∧ er c.f1 60 = true) ∧ eF (au key) = true ∧ l.length ≤ 4 := by
 unfold jw at h
 have h1 := decide_eq_true_iff.1 h; refine ⟨fun c hc => ?_, h1.2⟩; obtain ⟨i, hi, rfl⟩ := List.mem_iff_getElem.1 hc; have h2 := h1.1 i hi (Nat.zero_le _); exact ⟨h2.1, h2.2.1⟩
open Classical in
theorem oh {s : ByteArray} {m : Int} (h : er s m = true) : (s.size : Int) ≤ m := by
 unfold er at h
 exact (decide_eq_true_iff.1 h).2
def dr (F : List S92) (R : List S46) (n : Int) (i : Nat) : Prop := ∀ (j : Nat) (h : j < R.length), i ≤ j → m6 F R n j h
open Classical in
theorem lT {F : List S92} {R : List S46} {n : Int} (h : dr F R n 0) : ∀ r ∈ R, r.f1.f1.length ≤ 4 ∧ ∀ x ∈ r.f1.f1, x.f0.size ≤ 1000000 ∧ x.f1.size ≤ 1000 := by
 intro r hr; obtain ⟨i, hi, rfl⟩ := List.mem_iff_getElem.1 hr; have h1 := (h i hi (Nat.zero_le _)).1; have hp : iY F R[i].f1.f0 R[i].f1.f1 := by unfold gj at h1; exact of_decide_eq_true h1
 have hf := kV hp.2.1; refine ⟨hf.2.2, fun x hx => ?_⟩; have h2 := hf.1 x hx; have h3 := oh h2.2; have h4 := (fO.1 h2.1).2.2; rw [b6] at h4; exact ⟨by omega, by omega⟩
theorem d9 {F : List S92} {R : List S46} {n : Int} {i : Nat} (h : i < R.length) : dr F R n i ↔ m6 F R n i h ∧ dr F R n (i + 1) := by
 constructor
 ·intro h2; exact ⟨h2 i h (Nat.le_refl _), fun j hj hij => h2 j hj (by omega)⟩
 ·rintro ⟨h1, h2⟩ j hj hij; rcases Nat.lt_or_ge i j with hlt | hge
  ·exact h2 j hj hlt
  ·obtain rfl : i = j := by omega
   exact h1
theorem kP {p q : S76} : p = q ↔ p.f0 = q.f0 ∧ p.f1 = q.f1 ∧ p.f2 = q.f2 := by
 constructor
 ·intro h; rw [h]; exact ⟨rfl, rfl, rfl⟩
 ·obtain ⟨a, b, e⟩ := p; obtain ⟨c, d, f⟩ := q; rintro ⟨h1, h2, h3⟩; have h1' : a = c := h1; have h2' : b = d := h2; have h3' : e = f := h3; rw [h1', h2', h3']
open Classical in
theorem pT (a b : List Int) (ha : a.length ≤ 1099511627776) : Ev (fun k => ay.f k a b) (decide (a = b)) := by
 simp only [ay.f]; by_cases hl : a.length = b.length
 ·simp only [if_pos (show (a.length : Int) = (b.length : Int) by omega)]; have main : ∀ (d i : Nat), i + d = a.length → Ev (fun k => ay.l0 k a b (a.length : Int) (i : Int)) (decide (a.drop i = b.drop i)) := by
   intro d; induction d with
   | zero =>
    intro i hi; refine Ev.step (fun k => ay.l0.eq_2 _ _ _ _ _) ?_; simp only [if_neg (show ¬ ((i : Int) < (a.length : Int)) by omega)]; rw [List.drop_eq_nil_of_le (by omega), List.drop_eq_nil_of_le (by omega)]; exact ez rfl (Ev.now _)
   | succ d ih =>
    intro i hi; have hia : i < a.length := by omega
    have hib : i < b.length := by omega
    refine Ev.step (fun k => ay.l0.eq_2 _ _ _ _ _) ?_; simp only [if_pos (show ((i : Int) < (a.length : Int)) by omega), if_pos (show (0 : Int) ≤ (i : Int) by omega), if_pos (show ((i : Int) < (b.length : Int)) by omega), iZ a i hia, iZ b i hib, cg i (by omega)]; by_cases h : a[i] = b[i]
    ·simp only [if_pos h]; exact cS ⟨fun h2 => (co hia hib).2 ⟨h, h2⟩, fun h2 => ((co hia hib).1 h2).2⟩ (ih (i + 1) (by omega))
    ·simp only [if_neg h]; exact bA (fun h2 => h ((co hia hib).1 h2).1) (Ev.now _)
  have := main a.length 0 (by omega); simpa using this
 ·simp only [if_neg (show ¬ (a.length : Int) = (b.length : Int) by omega)]; exact bA (fun h => hl (by rw [h])) (Ev.now _)
theorem ml {p q : S50} : p = q ↔ p.f0 = q.f0 ∧ p.f1 = q.f1 := by
 constructor
 ·intro h; rw [h]; exact ⟨rfl, rfl⟩
 ·obtain ⟨a, b⟩ := p; obtain ⟨c, d⟩ := q; rintro ⟨h1, h2⟩; have h1' : a = c := h1; have h2' : b = d := h2; rw [h1', h2']
open Classical in
theorem iR (p q : S50) (hp : p.f1.length ≤ 1099511627776) : Ev (fun k => cH.f k p.f0 p.f1 q.f0 q.f1) (decide (p = q)) := by
 simp only [cH.f]; by_cases h0 : p.f0 = q.f0
 ·simp only [if_pos h0]; refine Ev.bind (pT p.f1 q.f1 hp) ?_; exact cS ⟨fun h => ml.2 ⟨h0, h⟩, fun h => (ml.1 h).2⟩ (Ev.now (decide (p.f1 = q.f1)))
 ·simp only [if_neg h0]; exact bA (fun h => h0 (by rw [h])) (Ev.now _)
theorem ne (l : List S50) (j : Nat) (h : j < l.length) : bm l (j : Int) = l[j] := by
 unfold bm; simp [List.getD_eq_getElem?_getD, List.getElem?_eq_getElem h]
open Classical in
theorem mU (a b : List S50) (ha : a.length ≤ 1099511627776) (hs : ∀ p ∈ a, p.f1.length ≤ 1099511627776) : Ev (fun k => b7.f k a b) (decide (a = b)) := by
 simp only [b7.f]; by_cases hl : a.length = b.length
 ·simp only [if_pos (show (a.length : Int) = (b.length : Int) by omega)]; have main : ∀ (d i : Nat), i + d = a.length → Ev (fun k => b7.l0 k b a (a.length : Int) (i : Int)) (decide (a.drop i = b.drop i)) := by
   intro d; induction d with
   | zero =>
    intro i hi; refine Ev.step (fun k => b7.l0.eq_2 _ _ _ _ _) ?_; simp only [if_neg (show ¬ ((i : Int) < (a.length : Int)) by omega)]; rw [List.drop_eq_nil_of_le (by omega), List.drop_eq_nil_of_le (by omega)]; exact ez rfl (Ev.now _)
   | succ d ih =>
    intro i hi; have hia : i < a.length := by omega
    have hib : i < b.length := by omega
    refine Ev.step (fun k => b7.l0.eq_2 _ _ _ _ _) ?_; simp only [if_pos (show ((i : Int) < (a.length : Int)) by omega), if_pos (show (0 : Int) ≤ (i : Int) by omega), if_pos (show ((i : Int) < (b.length : Int)) by omega), ne a i hia, ne b i hib, cg i (by omega)]; refine Ev.bind (iR a[i] b[i] (hs _ (List.getElem_mem hia))) ?_; by_cases h : a[i] = b[i]
    ·rw [decide_eq_true h]; simp only [if_true]; exact cS ⟨fun h2 => (co hia hib).2 ⟨h, h2⟩, fun h2 => ((co hia hib).1 h2).2⟩ (ih (i + 1) (by omega))
    ·rw [decide_eq_false h]; simp only [if_neg (show ¬ (false = true) by decide)]; exact bA (fun h2 => h ((co hia hib).1 h2).1) (Ev.now _)
  have := main a.length 0 (by omega); simpa using this
 ·simp only [if_neg (show ¬ (a.length : Int) = (b.length : Int) by omega)]; exact bA (fun h => hl (by rw [h])) (Ev.now _)
open Classical in
theorem il (p q : S76) (hp : p.f2.length ≤ 1099511627776) (hs : ∀ x ∈ p.f2, x.f1.length ≤ 1099511627776) : Ev (fun k => cw.f k p.f0 p.f1 p.f2 q.f0 q.f1 q.f2) (decide (p = q)) := by
 simp only [cw.f, toList_inj]; by_cases h0 : p.f0 = q.f0
 ·simp only [if_pos h0]; by_cases h1 : p.f1 = q.f1
  ·simp only [if_pos h1]; refine Ev.bind (mU p.f2 q.f2 hp hs) ?_; exact cS ⟨fun h => kP.2 ⟨h0, h1, h⟩, fun h => (kP.1 h).2.2⟩ (Ev.now (decide (p.f2 = q.f2)))
  ·simp only [if_neg h1]; exact bA (fun h => h1 (by rw [h])) (Ev.now _)
 ·simp only [if_neg h0]; exact bA (fun h => h0 (by rw [h])) (Ev.now _)
open Classical in
theorem lO (a b : List S76) (ha : a.length ≤ 1099511627776) (hs : ∀ e ∈ a, e.f2.length ≤ 1099511627776 ∧ ∀ p ∈ e.f2, p.f1.length ≤ 1099511627776) : Ev (fun k => bS.f k a b) (decide (a = b)) := by
 simp only [bS.f]; by_cases hl : a.length = b.length
 ·simp only [if_pos (show (a.length : Int) = (b.length : Int) by omega)]; have main : ∀ (d i : Nat), i + d = a.length → Ev (fun k => bS.l0 k b a (a.length : Int) (i : Int)) (decide (a.drop i = b.drop i)) := by
   intro d; induction d with
   | zero =>
    intro i hi; refine Ev.step (fun k => bS.l0.eq_2 _ _ _ _ _) ?_; simp only [if_neg (show ¬ ((i : Int) < (a.length : Int)) by omega)]; rw [List.drop_eq_nil_of_le (by omega), List.drop_eq_nil_of_le (by omega)]; exact ez rfl (Ev.now _)
   | succ d ih =>
    intro i hi; have hia : i < a.length := by omega
    have hib : i < b.length := by omega
    have hx := hs _ (List.getElem_mem hia); refine Ev.step (fun k => bS.l0.eq_2 _ _ _ _ _) ?_; simp only [if_pos (show ((i : Int) < (a.length : Int)) by omega), if_pos (show (0 : Int) ≤ (i : Int) by omega), if_pos (show ((i : Int) < (b.length : Int)) by omega), iX a i hia, iX b i hib, cg i (by omega)]; refine Ev.bind (il a[i] b[i] hx.1 hx.2) ?_; by_cases h : a[i] = b[i]
    ·rw [decide_eq_true h]; simp only [if_true]; exact cS ⟨fun h2 => (co hia hib).2 ⟨h, h2⟩, fun h2 => ((co hia hib).1 h2).2⟩ (ih (i + 1) (by omega))
    ·rw [decide_eq_false h]; simp only [if_neg (show ¬ (false = true) by decide)]; exact bA (fun h2 => h ((co hia hib).1 h2).1) (Ev.now _)
  have := main a.length 0 (by omega); simpa using this
 ·simp only [if_neg (show ¬ (a.length : Int) = (b.length : Int) by omega)]; exact bA (fun h => hl (by rw [h])) (Ev.now _)
open Classical in
theorem jE {F : List S92} {R : List S46} {E : List S76} (hz : iT F R E) (n : Int) (hf : eW F = true) (h8 : R.length ≤ 8) (hn : 0 ≤ n ∧ n ≤ 999999999) : ∀ (d i : Nat), i + d = R.length → (∀ (j : Nat) (h : j < R.length), j < i → m6 F R n j h) → Ev (fun k => al.l0 k R (R.length : Int) (i : Int) F R E n) (decide (dr F R n i ∧ gZ F R E n)) := by
 have hr := hz.r; intro d; induction d with
 | zero =>
  intro i hi hprev; have hall : dr F R n 0 := fun j hj _ => hprev j hj (by omega)
  have hend : dr F R n i := fun j hj hij => by omega
  refine Ev.step (fun k => al.l0.eq_2 _ _ _ _ _ _ _ _) ?_; simp only [if_neg (show ¬ ((i : Int) < (R.length : Int)) by omega)]; obtain ⟨L, h1, h2, h3⟩ := kj F hz.f R (lT hall) h8; refine Ev.bind h1 ?_; refine Ev.bind (lO E L (by have := hz.e; omega) (fun e he => ⟨by have := (hz.es e he).1; omega, fun p hp => by have := (hz.es e he).2 p hp; omega⟩)) ?_; exact cS ⟨fun h => ⟨hend, hf, h8, hn, by rw [h]; exact h2⟩, fun h => lV h.2.2.2.2 h2⟩ (Ev.now (decide (E = L)))
 | succ d ih =>
  intro i hi hprev; have hil : i < R.length := by omega
  have hs := hz.rs _ (List.getElem_mem hil); have next : m6 F R n i hil → Ev (fun k => al.l0 k R (R.length : Int) ((i + 1 : Nat) : Int) F R E n) (decide (dr F R n i ∧ gZ F R E n)) := fun hp =>
   cS ⟨fun h => ⟨(d9 hil).2 ⟨hp, h.1⟩, h.2⟩, fun h => ⟨((d9 hil).1 h.1).2, h.2⟩⟩ (ih (i + 1) (by omega) (fun j hj hji => by
    rcases Nat.lt_or_ge j i with hlt | hge
    ·exact hprev j hj hlt
    ·obtain rfl : j = i := by omega
     exact hp))
  have stop : ¬ m6 F R n i hil → Ev (fun _ : Nat => some false) (decide (dr F R n i ∧ gZ F R E n)) := fun hp => bA (fun h => hp ((d9 hil).1 h.1).1) (Ev.now _)
  have doc : (0 ≤ R[i].f0 ∧ R[i].f0 ≤ wrap64 (n - 1)) → (∀ h0 : 0 < i, (R[i - 1]'(by omega)).f0 < R[i].f0) → Ev (fun k => (aI.f k F R[i].f1.f0 R[i].f1.f1).bind fun t => if t = true then (cW.f F R E n R[i].f1.f0).bind fun t2 => if t2 = (i : Int) then al.l0 k R (R.length : Int) ((i + 1 : Nat) : Int) F R E n else some false else some false) (decide (dr F R n i ∧ gZ F R E n)) := by
   intro hin ho; refine Ev.bind (lH F hz.f hz.fs R[i].f1.f0 R[i].f1.f1 hs.1 hs.2.1 hs.2.2) ?_; cases hd : gj F R[i].f1.f0 R[i].f1.f1 with
   | false => simp only [if_neg (show ¬ (false = true) by decide)]; exact stop (fun h => by have := h.1; rw [hd] at this; cases this)
   | true =>
    simp only [if_true, cW.f, Option.bind_some]; by_cases hk : eb R[i].f1.f0 0 R = (i : Int)
    ·simp only [if_pos hk]; exact next ⟨hd, hk, hin, ho⟩
    ·simp only [if_neg hk]; exact stop (fun h => hk h.2.1)
  refine Ev.step (fun k => al.l0.eq_2 _ _ _ _ _ _ _ _) ?_; simp only [if_pos (show ((i : Int) < (R.length : Int)) by omega), if_pos (show (0 : Int) ≤ (i : Int) by omega), iy R i hil, cg i (by omega), dA, Option.bind_some]; by_cases hin : 0 ≤ R[i].f0 ∧ R[i].f0 ≤ wrap64 (n - 1)
  ·simp only [decide_eq_true hin, if_true]; by_cases h0 : 0 < i
   ·obtain ⟨m, rfl⟩ : ∃ m, i = m + 1 := ⟨i - 1, by omega⟩; simp only [if_pos (show ((m + 1 : Nat) : Int) > 0 by omega), wpred m (by omega), if_pos (show (0 : Int) ≤ (m : Int) by omega), if_pos (show ((m : Int) < (R.length : Int)) by omega), iy R m (by omega)]; by_cases ho : R[m].f0 ≥ R[m + 1].f0
    ·simp only [if_pos ho]; exact stop (fun h => by have h2 : R[m].f0 < R[m + 1].f0 := h.2.2.2 h0; omega)
    ·simp only [if_neg ho]; exact doc hin (fun _ => by show R[m].f0 < R[m + 1].f0; omega)
   ·simp only [if_neg (show ¬ ((i : Int) > 0) by omega)]; exact doc hin (fun h => absurd h h0)
  ·simp only [decide_eq_false hin, if_neg (show ¬ (false = true) by decide)]; exact stop (fun h => hin h.2.2.1)
open Classical in
noncomputable def mj (F : List S92) (R : List S46) (E : List S76) (n : Int) : Bool := decide (dr F R n 0 ∧ gZ F R E n)
open Classical in
theorem jK {F : List S92} {R : List S46} {E : List S76} (hz : iT F R E) (n : Int) : Ev (fun k => al.f k F R E n) (mj F R E n) := by
 have hr := hz.r; simp only [al.f, mj]; have stop : ¬ gZ F R E n → Ev (fun k => al.j0 k true F R E n) (decide (dr F R n 0 ∧ gZ F R E n)) := by
  intro h; refine Ev.step (fun k => al.j0.eq_2 _ _ _ _ _ _) ?_; simp only [if_true]; exact bA (fun h2 => h h2.2) (Ev.now _)
 refine Ev.bind (fU F (by have := hz.f; omega) hz.fs) ?_; cases hf : eW F with
 | false => simp only [if_neg (show ¬ (false = true) by decide)]; exact stop (fun h => by have := h.1; rw [hf] at this; cases this)
 | true =>
  simp only [if_true]; by_cases h8 : R.length ≤ 8
  ·simp only [if_neg (show ¬ ((R.length : Int) > 8) by omega), dA, Option.bind_some]; by_cases hn : 0 ≤ n ∧ n ≤ 999999999
   ·simp only [decide_eq_true hn, Bool.not_true]; refine Ev.step (fun k => al.j0.eq_2 _ _ _ _ _ _) ?_; simp only [if_neg (show ¬ (false = true) by decide)]; exact jE hz n hf h8 hn R.length 0 (by omega) (fun j hj h => by omega)
   ·simp only [decide_eq_false hn, Bool.not_false]; exact stop (fun h => hn h.2.2.1)
  ·simp only [if_pos (show ((R.length : Int) > 8) by omega)]; exact stop (fun h => h8 h.2.1)
theorem d6 (a b c : Int) : ce.f a b c = some (decide (b ≤ a ∧ a ≤ c)) := by
 unfold ce.f
 by_cases h : a ≥ b
 ·rw [if_pos h]; congr 1; exact decide_eq_decide.2 ⟨fun h2 => ⟨h, h2⟩, fun h2 => h2.2⟩
 ·rw [if_neg h]; congr 1; symm; exact decide_eq_false (fun h2 => h h2.1)
open Classical in
theorem kK (s : ByteArray) (hn : s.size < 4611686018427387904) : ∀ (d i : Nat), i + d = s.size → Ev (fun k => aH.l0 k s (i : Int)) (decide (dK (au s) i)) := by
 have hb := b6 s; intro d; induction d with
 | zero =>
  intro i hi; refine Ev.step (fun k => aH.l0.eq_2 _ _ _) ?_; simp only [if_neg (show ¬ ((i : Int) < (s.size : Int)) by omega), d6, Option.bind_some]; refine cL (io (by omega)).symm ?_; refine gA fun _ => ?_
  congr 1; exact decide_eq_decide.2 (by omega)
 | succ d ih =>
  intro i hi; have hs := g5 (l := au s) (j := i) (by omega); refine Ev.step (fun k => aH.l0.eq_2 _ _ _) ?_; simp only [if_pos (show ((i : Int) < (s.size : Int)) by omega), if_pos (show 0 ≤ (i : Int) by omega), cg i (by omega), gq s i (by omega)]; by_cases h1 : ky (au s)[i]
  ·simp only [if_pos (show (au s)[i] ≥ 97 from h1.1), if_pos h1.2]; exact cL (hs.trans ⟨fun h => h.2, fun h => ⟨.inl h1, h⟩⟩).symm (ih (i + 1) (by omega))
  ·have key : Ev (fun k => if (i : Int) = 0 then some false else if (au s)[i] < 48 then some false else if (au s)[i] > 57 then some false else aH.l0 k s ((i + 1 : Nat) : Int)) (decide (dK (au s) i)) := by
    by_cases h0 : (i : Int) = 0
    ·simp only [if_pos h0]; have : decide (dK (au s) i) = false := decide_eq_false (fun h => by rcases (hs.1 h).1 with h2 | h2; exact h1 h2; omega); rw [this]; exact Ev.now _
    ·simp only [if_neg h0]; by_cases h2 : lm (au s)[i]
     ·simp only [if_neg (show ¬ (au s)[i] < 48 by have := h2.1; omega), if_neg (show ¬ (au s)[i] > 57 by have := h2.2; omega)]; exact cL (hs.trans ⟨fun h => h.2, fun h => ⟨.inr ⟨by omega, h2⟩, h⟩⟩).symm (ih (i + 1) (by omega))
     ·have : decide (dK (au s) i) = false := decide_eq_false (fun h => by rcases (hs.1 h).1 with h3 | h3; exact h1 h3; exact h2 h3.2); rw [this]; by_cases h3 : (au s)[i] < 48
      ·simp only [if_pos h3]; exact Ev.now _
      ·simp only [if_neg h3, if_pos (show (au s)[i] > 57 by unfold lm at h2; omega)]; exact Ev.now _
   by_cases h3 : (au s)[i] ≥ 97
   ·simp only [if_pos h3, if_neg (show ¬ (au s)[i] ≤ 122 by unfold ky at h1; omega)]; exact key
   ·simp only [if_neg h3]; exact key
theorem eN (s : ByteArray) (hn : s.size < 4611686018427387904) : Ev (fun k => aH.f k s) (eF (au s)) := kK s hn s.size 0 (by omega)
open Classical in
theorem kT (s : ByteArray) (hs : s.size < 4611686018427387904) : ∀ (d i : Nat), i + d = s.size → Ev (fun k => bd.l0 k s (i : Int)) (decide ((∀ c ∈ (au s).drop i, ry c) ∧ (s.size : Int) ≤ 60)) := by
 have hlen := b6 s; intro d; induction d with
 | zero =>
  intro i hi; refine Ev.step (fun k => bd.l0.eq_2 _ _ _) ?_; simp only [if_neg (show ¬ ((i : Int) < (s.size : Int)) by omega)]; refine cL ?_ (Ev.now _); rw [List.drop_eq_nil_of_le (by omega)]; exact ⟨fun h => ⟨fun c hc => by simp at hc, h⟩, fun h => h.2⟩
 | succ d ih =>
  intro i hi; refine Ev.step (fun k => bd.l0.eq_2 _ _ _) ?_; simp only [if_pos (show ((i : Int) < (s.size : Int)) by omega), if_pos (show 0 ≤ (i : Int) by omega), oP s i (by omega), d6, Option.bind_some, decide_eq_true_eq, cg i (by omega)]; have e := List.drop_eq_getElem_cons (l := au s) (i := i) (by omega); by_cases hw : 32 ≤ (au s)[i] ∧ (au s)[i] ≤ 126
  ·simp only [if_pos hw]; refine cL ?_ (ih (i + 1) (by omega)); rw [e]; constructor
   ·rintro ⟨h1, h2⟩; exact ⟨fun c hc => by rcases List.mem_cons.1 hc with h | h; exact h ▸ hw; exact h1 c h, h2⟩
   ·rintro ⟨h1, h2⟩; exact ⟨fun c hc => h1 c (List.mem_cons_of_mem _ hc), h2⟩
  ·simp only [if_neg hw]; refine cy (fun h => hw (h.1 _ ?_)) (Ev.now _); rw [e]; exact List.mem_cons_self ..
theorem gw (s : ByteArray) (hs : s.size < 4611686018427387904) : Ev (fun k => bd.f k s) (er s 60) := by
 simp only [bd.f, er]; exact kT s hs s.size 0 (by omega)
open Classical in
theorem kD (key : ByteArray) (l : List S86) (hk : key.size ≤ 1048576) (hn : l.length ≤ 1048576) (hs : ∀ x ∈ l, x.f0.size ≤ 1048576 ∧ x.f1.size ≤ 1048576) : ∀ (d i : Nat), i + d = l.length →
  Ev (fun k => aJ.l0 k (i : Int) key l) (decide (fN key l i)) := by
 intro d; induction d with
 | zero =>
  intro i hi; refine Ev.step (fun k => aJ.l0.eq_2 _ _ _ _) ?_; simp only [if_neg (show ¬ ((i : Int) < (l.length : Int)) by omega)]; refine cL (ik (by omega)).symm ?_; refine Ev.bind (eN key (by omega)) ?_; cases hnm : eF (au key) with
  | false => simp only [if_neg (show ¬ (false = true) by decide)]; exact cy (fun h => by cases h.1) (Ev.now _)
  | true =>
   simp only [if_true]; exact cL ⟨fun h => ⟨(by first | trivial | rfl), by omega⟩, fun h => by have := h.2; omega⟩ (Ev.now _)
 | succ d ih =>
  intro i hi; have hst := gQ (key := key) (l := l) (j := i) (by omega); have hsz := hs l[i] (List.getElem_mem _); have hnext := ih (i + 1) (by omega); refine Ev.step (fun k => aJ.l0.eq_2 _ _ _ _) ?_; simp only [if_pos (show ((i : Int) < (l.length : Int)) by omega), if_pos (show 0 ≤ (i : Int) by omega), e7 l i (by omega), cg i (by omega)]; refine Ev.bind (eN l[i].f0 (by omega)) ?_; cases hnm : eF (au l[i].f0) with
  | false => simp only [if_neg (show ¬ (false = true) by decide)]; exact cy (fun h => by have := (hst.1 h).1.1; rw [hnm] at this; cases this) (Ev.now _)
  | true =>
   simp only [if_true]; refine Ev.bind (gw l[i].f1 (by omega)) ?_; cases htx : er l[i].f1 60 with
   | false => simp only [if_neg (show ¬ (false = true) by decide)]; exact cy (fun h => by have := (hst.1 h).1.2.1; rw [htx] at this; cases this) (Ev.now _)
   | true =>
    simp only [if_true]; by_cases h0 : (i : Int) > 0
    ·have he : wrap64 ((i : Int) - 1) = ((i - 1 : Nat) : Int) := by rw [cN (by omega) (by omega)]; omega
     simp only [if_pos h0, he, if_pos (show 0 ≤ ((i - 1 : Nat) : Int) by omega), if_pos (show ((i - 1 : Nat) : Int) < (l.length : Int) by omega), e7 l (i - 1) (by omega)]; by_cases hl : oZ (l[i - 1]'(by omega)).f0 l[i].f0
     ·have hl2 : Op.bytesLess (l[i - 1]'(by omega)).f0.toList l[i].f0.toList = true := hl; simp only [hl2, if_true]; exact cL (hst.trans ⟨fun h => h.2, fun h => ⟨⟨hnm, htx, fun _ => hl⟩, h⟩⟩).symm hnext
     ·have hl2 : Op.bytesLess (l[i - 1]'(by omega)).f0.toList l[i].f0.toList = false := Bool.eq_false_iff.2 hl; simp only [hl2, if_neg (show ¬ (false = true) by decide)]; exact cy (fun h => hl ((hst.1 h).1.2.2 (by omega))) (Ev.now _)
    ·simp only [if_neg h0]; exact cL (hst.trans ⟨fun h => h.2, fun h => ⟨⟨hnm, htx, fun h1 => by omega⟩, h⟩⟩).symm hnext
theorem ku (key : ByteArray) (l : List S86) (hk : key.size ≤ 1048576) (hn : l.length ≤ 1048576) (hs : ∀ x ∈ l, x.f0.size ≤ 1048576 ∧ x.f1.size ≤ 1048576) : Ev (fun k => aJ.f k key l) (jw key l) := kD key l hk hn hs l.length 0 (by omega)
def isD (c : UInt8) : Prop := 48 ≤ c.toNat ∧ c.toNat ≤ 57
instance (c : UInt8) : Decidable (isD c) := by unfold isD; infer_instance
def kJ (l : List UInt8) : Prop := l ≠ [] ∧ (∀ c ∈ l, isD c) ∧ (1 < l.length → l.head? ≠ some 48)
theorem pp {l : List UInt8} {i : Nat} (h : i < l.length) (hd : ¬ isD l[i]) : ¬ kJ l := fun hc => hd (hc.2.1 _ (List.getElem_mem h))
def eu (acc : Nat) (l : List UInt8) : Nat := l.foldl (fun a c => a * 10 + (c.toNat - 48)) acc
theorem gE (a : List UInt8) (acc : Nat) (b : List UInt8) : eu acc (a ++ b) = eu (eu acc a) b := by unfold eu; rw [List.foldl_append]
theorem el (acc : Nat) (c : UInt8) (r : List UInt8) : eu acc (c :: r) = eu (acc * 10 + (c.toNat - 48)) r := by unfold eu; rw [List.foldl_cons]
theorem fk (acc : Nat) : eu acc [] = acc := rfl
theorem pW {l : List UInt8} {i : Nat} (h : i < l.length) : eu 0 (l.take (i + 1)) = eu 0 (l.take i) * 10 + (l[i].toNat - 48) := by
 rw [List.take_add_one, List.getElem?_eq_getElem h]; show eu 0 (l.take i ++ [l[i]]) = _
 rw [gE, el, fk]
theorem pi (s : ByteArray) (i : Nat) (h : i < s.data.toList.length) : bt s (i : Int) = ((s.data.toList[i]).toNat : Int) := by
 rw [gq s i (by rw [b6]; exact h)]; unfold au
 rw [List.getElem_map]
open Classical in
noncomputable def eC (s : ByteArray) : Int := if kJ s.data.toList ∧ s.size ≤ 9 then (eu 0 s.data.toList : Int) else -1
theorem mN : ∀ (l : List UInt8) (acc : Nat), (∀ c ∈ l, isD c) → eu acc l < (acc + 1) * 10 ^ l.length
 | [], acc, _ => by rw [fk]; simp
 | c :: l, acc, h => by
  have hc := h c (by simp); unfold isD at hc
  have h1 := mN l (acc * 10 + (c.toNat - 48)) (fun x hx => h x (List.mem_cons_of_mem _ hx)); rw [el, List.length_cons, Nat.pow_succ, Nat.mul_comm (10 ^ l.length) 10, ← Nat.mul_assoc]; refine Nat.lt_of_lt_of_le h1 (Nat.mul_le_mul_right _ (by omega))
theorem mq (s : ByteArray) (hs : s.size ≤ 1099511627776) : ∀ (d i : Nat), i + d = s.size → i ≤ 9 → (∀ c ∈ s.data.toList.take i, isD c) →
  Ev (fun k => a7.l0 k s ((eu 0 (s.data.toList.take i) : Nat) : Int) (i : Int)) (eC s) := by
 have hlen := fj s; intro d; induction d with
 | zero =>
  intro i hi h9 hd; refine Ev.step (fun k => a7.l0.eq_2 _ _ _ _) ?_; have et : s.data.toList.take i = s.data.toList := List.take_of_length_le (by omega); rw [et] at hd ⊢; simp only [if_neg (show ¬ ((i : Int) < (s.size : Int)) by omega)]; by_cases h0 : s.size = 0
  ·have e0 : eC s = -1 := by unfold eC; rw [if_neg (fun hc => hc.1.1 (List.length_eq_zero_iff.1 (by omega)))]
   rw [e0]; simp only [if_pos (show (s.size : Int) = 0 by omega)]; exact Ev.now _
  ·simp only [if_neg (show ¬ (s.size : Int) = 0 by omega)]; have hne : s.data.toList ≠ [] := fun e => h0 (by rw [← hlen, e]; rfl)
   by_cases h1 : (s.size : Int) > 1
   ·have hb := pi s 0 (by omega); have hb0 : bt s 0 = ((s.data.toList[0]'(by omega)).toNat : Int) := hb; simp only [if_pos h1, if_pos (show 0 < (s.size : Int) by omega), hb0]; have hh : s.data.toList.head? = some (s.data.toList[0]'(by omega)) := by
     rw [List.head?_eq_getElem?, List.getElem?_eq_getElem]
    by_cases h48 : ((s.data.toList[0]'(by omega)).toNat : Int) = 48
    ·have e48 : s.data.toList[0]'(by omega) = 48 := UInt8.toNat_inj.1 (show _ = 48 by omega); have e0 : eC s = -1 := by unfold eC; rw [if_neg (fun hc => hc.1.2.2 (by omega) (by rw [hh, e48]))]
     rw [e0]; simp only [if_pos h48]; exact Ev.now _
    ·have e0 : eC s = ((eu 0 s.data.toList : Nat) : Int) := by unfold eC; rw [if_pos ⟨⟨hne, hd, fun _ he => by rw [hh] at he; exact h48 (by rw [Option.some.inj he]; rfl)⟩, by omega⟩]
     rw [e0]; simp only [if_neg h48]; exact Ev.now _
   ·have e0 : eC s = ((eu 0 s.data.toList : Nat) : Int) := by unfold eC; rw [if_pos ⟨⟨hne, hd, fun h => by omega⟩, by omega⟩]
    rw [e0]; simp only [if_neg h1]; exact Ev.now _
 | succ d ih =>
  intro i hi h9 hd; have hil : i < s.data.toList.length := by omega
  have hb := pi s i hil; refine Ev.step (fun k => a7.l0.eq_2 _ _ _ _) ?_; simp only [if_pos (show ((i : Int) < (s.size : Int)) by omega), if_pos (show 0 ≤ (i : Int) by omega), hb]; have hno : ∀ (h : ¬ isD s.data.toList[i]), eC s = -1 := fun h => by unfold eC; rw [if_neg (fun hc => pp hil h hc.1)]
  by_cases h1 : ((s.data.toList[i]).toNat : Int) < 48
  ·simp only [if_pos h1]; rw [hno (by unfold isD; omega)]; exact Ev.now _
  ·by_cases h2 : ((s.data.toList[i]).toNat : Int) > 57
   ·simp only [if_neg h1, if_pos h2]; rw [hno (by unfold isD; omega)]; exact Ev.now _
   ·by_cases h3 : (i : Int) ≥ 9
    ·simp only [if_neg h1, if_neg h2, if_pos h3]; have : eC s = -1 := by unfold eC; rw [if_neg (fun hc => by have := hc.2; omega)]
     rw [this]; exact Ev.now _
    ·have hlt := mN (s.data.toList.take i) 0 hd; have hl1 : (s.data.toList.take i).length = i := by rw [List.length_take]; omega
     rw [hl1] at hlt; have hp : 10 ^ i ≤ 10 ^ 9 := Nat.pow_le_pow_right (by decide) (by omega); have e9 : (10 : Nat) ^ 9 = 1000000000 := by decide
     have hstep := pW hil; have ew : wrap64 (wrap64 (((eu 0 (s.data.toList.take i) : Nat) : Int) * 10) + ((((s.data.toList[i]).toNat : Int) - 48) % 256)) = ((eu 0 (s.data.toList.take (i + 1)) : Nat) : Int) := by
      rw [hstep, cN (x := ((eu 0 (s.data.toList.take i) : Nat) : Int) * 10) (by omega) (by omega), cN (by omega) (by omega)]; omega
     simp only [if_neg h1, if_neg h2, if_neg h3, ew, cg i (by omega)]; refine ih (i + 1) (by omega) (by omega) (fun c hc => ?_); rw [List.take_add_one, List.getElem?_eq_getElem hil] at hc; rcases List.mem_append.1 hc with h | h
     ·exact hd c h
     ·have : c = s.data.toList[i] := by simpa using h
      rw [this]; unfold isD; omega
theorem fG (s : ByteArray) (hs : s.size ≤ 1099511627776) : Ev (fun k => a7.f k s) (eC s) := by
 have := mq s hs s.size 0 (by omega) (by omega) (fun c hc => by simp at hc); simpa [a7.f, fk] using this
theorem mr {n : Int} (h : 0 ≤ n) : Lib.itoa n = Lib.decDigits n.toNat := by unfold Lib.itoa; rw [if_neg (by omega)]
theorem gG (v : Nat) (h : v < 10) : (UInt8.ofNat (48 + v)).toNat = 48 + v := by rw [UInt8.toNat_ofNat']; exact Nat.mod_eq_of_lt (by omega)
theorem jZ (u : Nat) : ∀ c ∈ Lib.decDigits u, isD c := by
 induction u using Nat.strongRecOn with
 | _ u ih =>
  intro c hc; unfold isD
  by_cases h : u < 10
  ·rw [Lib.decDigits, dif_pos h, List.mem_singleton] at hc; rw [hc, gG u h]; omega
  ·rw [Lib.decDigits, dif_neg h] at hc; rcases List.mem_append.1 hc with h1 | h1
   ·exact ih (u / 10) (by omega) c h1
   ·rw [List.mem_singleton] at h1; rw [h1, gG (u % 10) (by omega)]; omega
theorem pD (u : Nat) (t : List UInt8) : Lib.decDigits u ≠ 45 :: t := by
 intro h; have := jZ u 45 (by rw [h]; simp); exact absurd this (by decide)
theorem k7 : ∀ (k u : Nat), u < 10 ^ (k + 1) → Lib.nDigits u ≤ k + 1
 | 0, u, h => by rw [Lib.nDigits_small (by simpa using h)]; exact Nat.le_refl _
 | k + 1, u, h => by
  by_cases h1 : u < 10
  ·rw [Lib.nDigits_small h1]; omega
  ·rw [Lib.nDigits_big h1]; have := k7 k (u / 10) (by rw [Nat.pow_succ] at h; omega); omega
theorem iS (u : Nat) : Lib.decDigits u ≠ [] := by
 intro h; have h1 := Lib.decDigits_length u; have h2 := Lib.nDigits_pos u; rw [h] at h1; simp at h1; omega
theorem qq (u : Nat) : 1 ≤ u → ∀ c r, Lib.decDigits u = c :: r → 49 ≤ c.toNat := by
 induction u using Nat.strongRecOn with
 | _ u ih =>
  intro hu c r he; by_cases h : u < 10
  ·rw [Lib.decDigits, dif_pos h] at he; have := (List.cons.inj he).1; rw [← this, gG u h]; omega
  ·rw [Lib.decDigits, dif_neg h] at he; obtain ⟨c', r', e'⟩ : ∃ c' r', Lib.decDigits (u / 10) = c' :: r' := by
    cases hd : Lib.decDigits (u / 10) with
    | nil => exact absurd hd (iS _)
    | cons c' r' => exact ⟨c', r', rfl⟩
   have := ih (u / 10) (by omega) (by omega) c' r' e'; rw [e', List.cons_append] at he; rw [← (List.cons.inj he).1]; exact this
theorem pS (u : Nat) : kJ (Lib.decDigits u) := by
 refine ⟨iS u, jZ u, fun hl => ?_⟩; intro he; have hu : 1 ≤ u := by
  rcases Nat.lt_or_ge u 1 with h | h
  ·obtain rfl : u = 0 := by omega
   rw [Lib.decDigits, dif_pos (by omega)] at hl; simp at hl
  ·exact h
 cases hd : Lib.decDigits u with
 | nil => exact iS u hd
 | cons c r =>
  have := qq u hu c r hd; rw [hd] at he; simp at he
  rw [he] at this; exact absurd this (by decide)
theorem mM : ∀ (l : List UInt8) (acc : Nat), acc ≤ eu acc l
 | [], _ => Nat.le_refl _
 | c :: l, acc => by
  have := mM l (acc * 10 + (c.toNat - 48)); rw [el]; omega
theorem kM : ∀ (n : Nat) (l : List UInt8), l.length = n → kJ l → Lib.decDigits (eu 0 l) = l
 | 0, l, hn, h => absurd (List.length_eq_zero_iff.1 hn) h.1
 | n + 1, l, hn, h => by
  obtain ⟨a, c, rfl⟩ : ∃ a c, l = a ++ [c] := ⟨l.dropLast, l.getLast h.1, (List.dropLast_concat_getLast h.1).symm⟩; have hc := h.2.1 c (by simp); unfold isD at hc
  have hcc : UInt8.ofNat (48 + (c.toNat - 48)) = c := UInt8.toNat_inj.1 (by rw [gG _ (by omega)]; omega); have ev : eu 0 (a ++ [c]) = eu 0 a * 10 + (c.toNat - 48) := by rw [gE, el, fk]
  by_cases ha : a = []
  ·subst ha; rw [ev, fk, Nat.zero_mul, Nat.zero_add, Lib.decDigits, dif_pos (by omega), hcc]; rfl
  ·obtain ⟨x, r, rfl⟩ : ∃ x r, a = x :: r := by
    cases a with
    | nil => exact absurd rfl ha
    | cons x r => exact ⟨x, r, rfl⟩
   have hx := h.2.1 x (by simp); unfold isD at hx
   have hx48 : x ≠ 48 := fun e => h.2.2 (by simp) (by simp [e])
   have hx49 : 49 ≤ x.toNat := by
    rcases Nat.lt_or_ge x.toNat 49 with h1 | h1
    ·exact absurd (UInt8.toNat_inj.1 (show x.toNat = (48 : UInt8).toNat by show _ = 48; omega)) hx48
    ·exact h1
   have hge := mM r (0 * 10 + (x.toNat - 48)); have hv : 1 ≤ eu 0 (x :: r) := by rw [el]; omega
   have hcan : kJ (x :: r) := ⟨by simp, fun y hy => h.2.1 y (List.mem_append_left _ hy), fun _ => by simpa using hx48⟩; have ih := kM n (x :: r) (by simp at hn ⊢; omega) hcan; rw [ev, Lib.decDigits, dif_neg (by omega), show (eu 0 (x :: r) * 10 + (c.toNat - 48)) / 10 = eu 0 (x :: r) by omega, show (eu 0 (x :: r) * 10 + (c.toNat - 48)) % 10 = c.toNat - 48 by omega, ih, hcc]
theorem mo (u : Nat) : eu 0 (Lib.decDigits u) = u := by
 induction u using Nat.strongRecOn with
 | _ u ih =>
  by_cases h : u < 10
  ·rw [Lib.decDigits, dif_pos h, el, fk, gG u h]; omega
  ·rw [Lib.decDigits, dif_neg h, gE, ih (u / 10) (by omega), el, fk, gG (u % 10) (by omega)]; omega
theorem k9 {s : ByteArray} {u : Nat} : eC s = (u : Int) ↔ u ≤ 999999999 ∧ Lib.decDigits u = s.data.toList := by
 constructor
 ·intro h; unfold eC at h
  split at h
  ·rename_i hc
   have hu : eu 0 s.data.toList = u := by omega
   have hl := mN s.data.toList 0 hc.1.2.1; have hp : 10 ^ s.data.toList.length ≤ 10 ^ 9 := Nat.pow_le_pow_right (by decide) hc.2; have e9 : (10 : Nat) ^ 9 = 1000000000 := by decide
   refine ⟨by omega, ?_⟩; rw [← hu]; exact kM _ _ rfl hc.1
  ·omega
 ·rintro ⟨h1, h2⟩; have hs : s.size ≤ 9 := by
   have h3 := k7 8 u (by omega); rw [← Lib.decDigits_length, h2] at h3; exact h3
  have hcan := pS u; rw [h2] at hcan; unfold eC
  rw [if_pos ⟨hcan, hs⟩, ← h2, mo]
theorem kg (s : ByteArray) : eC s = -1 ∨ ∃ u : Nat, u ≤ 999999999 ∧ eC s = (u : Int) ∧ Lib.decDigits u = s.data.toList := by
 by_cases h : ∃ u : Nat, eC s = (u : Int)
 ·obtain ⟨u, hu⟩ := h; have := k9.1 hu; exact Or.inr ⟨u, this.1, hu, this.2⟩
 ·refine Or.inl ?_; unfold eC
  split
  ·rename_i hc
   exact absurd ⟨_, show eC s = ((eu 0 s.data.toList : Nat) : Int) by unfold eC; rw [if_pos hc]⟩ h
  ·rfl
theorem mR (s : ByteArray) : 0 < eC s ↔ ∃ u : Nat, 1 ≤ u ∧ u ≤ 999999999 ∧ Lib.decDigits u = s.data.toList := by
 constructor
 ·intro h; rcases kg s with h1 | ⟨u, h1, h2, h3⟩
  ·omega
  ·exact ⟨u, by omega, h1, h3⟩
 ·rintro ⟨u, h0, h1, h2⟩; have := k9.2 (show u ≤ 999999999 ∧ Lib.decDigits u = s.data.toList from ⟨h1, h2⟩); omega
theorem mw {n : Int} (h : n < 0) : Lib.itoa n = 45 :: Lib.decDigits n.natAbs := by unfold Lib.itoa; rw [if_pos h]
theorem lQ : ∀ (l : List UInt8) (acc : Nat), (∀ c ∈ l, isD c) → eu acc l < 1844674407370955162 → Lib.parseUint10 acc l = .ok (eu acc l)
 | [], _, _, _ => rfl
 | c :: r, acc, h, hv => by
  have hc := h c (by simp); unfold isD at hc
  rw [el] at hv; have hg := mM r (acc * 10 + (c.toNat - 48)); rw [Lib.parseUint10, if_pos hc, if_neg (by omega), if_neg (by omega), lQ r _ (fun x hx => h x (List.mem_cons_of_mem _ hx)) hv, el]
theorem pk (u : Nat) (h : u ≤ 999999999999) : Lib.parseMag (Lib.decDigits u) = .ok u := by
 unfold Lib.parseMag
 rw [if_neg (iS u), lQ _ 0 (jZ u) (by rw [mo]; omega), mo]
theorem qD (u : Nat) (h : u ≤ 999999999999) : Lib.atoiAll (Lib.decDigits u) = .ok (u : Int) := by
 obtain ⟨c, r, e⟩ : ∃ c r, Lib.decDigits u = c :: r := by
  cases hd : Lib.decDigits u with
  | nil => exact absurd hd (iS _)
  | cons c r => exact ⟨c, r, rfl⟩
 have hc := jZ u c (by rw [e]; simp); unfold isD at hc
 have hm := pk u h; rw [e] at hm ⊢; rw [Lib.atoiAll_plain c r (by omega) (by omega), hm]; simp only [Lib.signless, if_neg (show ¬ 9223372036854775808 ≤ u by omega)]
theorem ru (u : Nat) (h : u ≤ 999999999999) : Lib.atoiAll (45 :: Lib.decDigits u) = .ok (-(u : Int)) := by
 rw [Lib.atoiAll_minus, pk u h]; simp only [Lib.signed, if_neg (show ¬ 9223372036854775808 < u by omega)]
theorem px (n : Int) (h0 : -999999999999 ≤ n) (h1 : n ≤ 999999999999) : Lib.atoiAll (Lib.itoa n) = .ok n := by
 unfold Lib.itoa
 by_cases h : n < 0
 ·rw [if_pos h, ru _ (by omega)]; congr 1; omega
 ·rw [if_neg h, qD _ (by omega)]; congr 1; omega
theorem nk {s : ByteArray} {n : Int} : hJ s = (n, true) ↔ -999999999 ≤ n ∧ n ≤ 999999999 ∧ Lib.itoa n = s.data.toList := by
 constructor
 ·intro h; unfold hJ at h
  split at h
  ·split at h
   ·rename_i hc; rw [← (Prod.mk.inj h).1]; exact hc
   ·cases (Prod.mk.inj h).2
  ·cases (Prod.mk.inj h).2
 ·rintro ⟨h0, h1, h2⟩; unfold hJ
  rw [← h2, px n (by omega) (by omega)]; simp only [if_pos (show -999999999 ≤ n ∧ n ≤ 999999999 ∧ True from ⟨h0, h1, trivial⟩)]
theorem jD (s : ByteArray) : (hJ s).2 = true ↔ ∃ n : Int, -999999999 ≤ n ∧ n ≤ 999999999 ∧ Lib.itoa n = s.data.toList := by
 constructor
 ·intro h; exact ⟨(hJ s).1, nk.1 (by rw [← h])⟩
 ·rintro ⟨n, h⟩; rw [nk.2 h]
theorem oe (s r : ByteArray) (h : s.data.toList = 45 :: r.data.toList) : (hJ s).2 = true ↔ 0 < eC r := by
 rw [jD, mR]; constructor
 ·rintro ⟨n, h0, h1, h2⟩; rw [h] at h2; by_cases hn : n < 0
  ·rw [mw hn] at h2; exact ⟨n.natAbs, by omega, by omega, (List.cons.inj h2).2⟩
  ·rw [mr (by omega)] at h2; exact absurd h2 (pD _ _)
 ·rintro ⟨u, h0, h1, h2⟩; refine ⟨-(u : Int), by omega, by omega, ?_⟩; rw [mw (by omega), h, ← h2]; congr 2; omega
theorem nz (s : ByteArray) : 0 ≤ eC s ↔ ∃ u : Nat, u ≤ 999999999 ∧ Lib.decDigits u = s.data.toList := by
 constructor
 ·intro h; rcases kg s with h1 | ⟨u, h1, h2, h3⟩
  ·omega
  ·exact ⟨u, h1, h3⟩
 ·rintro ⟨u, h1, h2⟩; have := k9.2 (show u ≤ 999999999 ∧ Lib.decDigits u = s.data.toList from ⟨h1, h2⟩); omega
theorem oc (s : ByteArray) (h : ∀ t, s.data.toList = 45 :: t → t = []) : (hJ s).2 = true ↔ 0 ≤ eC s := by
 rw [jD, nz]; constructor
 ·rintro ⟨n, h0, h1, h2⟩; by_cases hn : n < 0
  ·rw [mw hn] at h2; exact absurd (h _ h2.symm) (iS _)
  ·rw [mr (by omega)] at h2; exact ⟨n.toNat, by omega, h2⟩
 ·rintro ⟨u, h1, h2⟩; exact ⟨(u : Int), by omega, by omega, by rw [mr (by omega)]; exact h2⟩
theorem jc (s : ByteArray) (hs : s.size ≤ 1048576) : ∃ v, Ev (fun k => aU.f k s) (v, (hJ s).2) := by
 have hlen := fj s; simp only [aU.f]; have pos : (∀ t, s.data.toList = 45 :: t → t = []) → ∃ v, Ev (fun k => aU.j0 k s false) (v, (hJ s).2) := by
  intro h; refine ⟨eC s, Ev.step (fun k => aU.j0.eq_2 _ _ _) ?_⟩; simp only [if_neg (show ¬ (false = true) by decide)]; refine Ev.bind (fG s (by omega)) ?_; have e : decide (eC s ≥ 0) = (hJ s).2 := by
   rw [Bool.eq_iff_iff, decide_eq_true_eq]; exact (oc s h).symm
  rw [e]; exact Ev.now _
 by_cases h1 : (s.size : Int) > 1
 ·have hb : bt s 0 = ((s.data.toList[0]'(by omega)).toNat : Int) := pi s 0 (by omega); simp only [if_pos h1, if_pos (show 0 < (s.size : Int) by omega), hb]; obtain ⟨x, r, hx⟩ : ∃ x r, s.data.toList = x :: r := by
   cases hd : s.data.toList with
   | nil => rw [hd] at hlen; simp at hlen; omega
   | cons x r => exact ⟨x, r, rfl⟩
  have h0 : s.data.toList[0]'(by omega) = x := by simp [hx]
  rw [h0]; by_cases h45 : (x.toNat : Int) = 45
  ·have e45 : ((x.toNat : Int) == 45) = true := by simpa using h45
   have ex : x = 45 := UInt8.toNat_inj.1 (show _ = 45 by omega); subst ex; have hr : (s.extract 1 s.size).data.toList = r := by
    rw [Lib.extract_data, hx, List.drop_succ_cons, List.drop_zero]; apply List.take_of_length_le
    rw [hx, List.length_cons] at hlen; omega
   have hz : (s.extract 1 s.size).size ≤ 1048576 := by rw [ByteArray.size_extract]; omega
   rw [e45]; refine ⟨wrap64 (-eC (s.extract 1 s.size)), Ev.step (fun k => aU.j0.eq_2 _ _ _) ?_⟩; simp only [if_true, if_pos (show 1 ≤ (s.size : Int) by omega)]; refine Ev.bind (fG _ (by omega)) ?_; have e : decide (eC (s.extract 1 s.size) > 0) = (hJ s).2 := by
    rw [Bool.eq_iff_iff, decide_eq_true_eq]; exact (oe s (s.extract 1 s.size) (by rw [hr, hx])).symm
   rw [e]; exact Ev.now _
  ·have e45 : ((x.toNat : Int) == 45) = false := by simpa using h45
   rw [e45]; exact pos (fun t ht => absurd (show (x.toNat : Int) = 45 by rw [hx] at ht; rw [(List.cons.inj ht).1]; rfl) h45)
 ·simp only [if_neg h1]; exact pos (fun t ht => by
   rw [ht, List.length_cons] at hlen; exact List.length_eq_zero_iff.1 (by omega))
def cutT (c : UInt8) (n : Nat) (s : ByteArray) : List ByteArray := (eq c n [] s.data.toList).map mkT
theorem iG (c : UInt8) : ∀ (l : List UInt8) (n : Nat) (acc : List UInt8), l.count c ≤ n → eq c n acc l = eq c (l.count c) acc l
 | [], n, acc, _ => by simp [eq]
 | x :: xs, n, acc, h => by
  by_cases hx : x = c
  ·subst hx; rw [List.count_cons_self] at h ⊢; obtain ⟨m, rfl⟩ : ∃ m, n = m + 1 := ⟨n - 1, by omega⟩; rw [eq, eq, if_pos rfl, if_pos rfl, iG x xs m [] (by omega)]
  ·have e : (x :: xs).count c = xs.count c := List.count_cons_of_ne (by simpa using hx); rw [e] at h ⊢; have h1 := iG c xs n (acc ++ [x]) h; have e0 : ∀ k, eq c k acc (x :: xs) = eq c k (acc ++ [x]) xs := by
    intro k; have := iE c [x] k acc xs (by simpa using fun h => hx h.symm); exact this
   rw [e0, e0, h1]
theorem rm (c : UInt8) (s : ByteArray) : cutT c (s.size + 1) s = ec c s := by
 unfold cutT ec
 have h : s.data.toList.count c ≤ s.data.toList.length := List.count_le_length; rw [fj] at h; rw [iG c _ (s.size + 1) [] (by omega)]
def gx (s : ByteArray) : List ByteArray → List ByteArray
 | [] => [s]
 | x :: xs => if Op.bytesLess x.toList s.toList = true then x :: gx s xs else if x = s then x :: xs else s :: x :: xs
def jV (acc : List ByteArray) (l : List ByteArray) : List ByteArray := l.foldl (fun a s => gx s a) acc
theorem mK (acc : List ByteArray) (s : ByteArray) (l : List ByteArray) : jV acc (s :: l) = jV (gx s acc) l := rfl
theorem jx (s : ByteArray) : ∀ l : List ByteArray, (gx s l).length ≤ l.length + 1
 | [] => by simp [gx]
 | x :: xs => by
  have := jx s xs; unfold gx
  split
  ·simp only [List.length_cons]; omega
  ·split <;> simp
theorem lF (s : ByteArray) (l : List ByteArray) (hn : l.length ≤ 1099511627776) : ∀ (d i : Nat), i + d = l.length → Ev (fun k => bi.l0 k l s (i : Int)) (l.take i ++ gx s (l.drop i)) := by
 intro d; induction d with
 | zero =>
  intro i hi; refine Ev.step (fun k => bi.l0.eq_2 _ _ _ _) ?_; have e1 : l.take i = l := List.take_of_length_le (by omega); have e2 : l.drop i = [] := List.drop_eq_nil_of_le (by omega); simp only [if_neg (show ¬ ((i : Int) < (l.length : Int)) by omega), Option.bind_some, if_pos (show 0 ≤ (i : Int) by omega), if_pos (show (i : Int) ≤ (l.length : Int) by omega), bY, e1, e2, gx, List.nil_append, List.length_nil, Nat.zero_add, if_pos (show l.length < 8796093022208 by omega), List.length_cons, List.length_append, Nat.add_zero, if_pos (show l.length + 1 < 8796093022208 by omega), List.append_nil]; exact Ev.now _
 | succ d ih =>
  intro i hi; have hil : i < l.length := by omega
  have ed : l.drop i = l[i] :: l.drop (i + 1) := de l i hil; refine Ev.step (fun k => bi.l0.eq_2 _ _ _ _) ?_; simp only [if_pos (show ((i : Int) < (l.length : Int)) by omega), if_pos (show 0 ≤ (i : Int) by omega), iv _ l i hil, toList_inj, cg i (by omega)]; by_cases h1 : Op.bytesLess l[i].toList s.toList = true
  ·simp only [if_pos h1]; have e : l.take i ++ gx s (l.drop i) = l.take (i + 1) ++ gx s (l.drop (i + 1)) := by
    rw [ed, gx, if_pos h1, List.take_add_one, List.getElem?_eq_getElem hil, List.append_assoc]; rfl
   rw [e]; exact ih (i + 1) (by omega)
  ·simp only [if_neg h1]; by_cases h2 : l[i] = s
   ·simp only [if_pos h2]; have e : l.take i ++ gx s (l.drop i) = l := by rw [ed, gx, if_neg h1, if_pos h2, ← ed, List.take_append_drop]
    rw [e]; exact Ev.now _
   ·have lt : (l.take i).length = i := by rw [List.length_take]; omega
    have ld : (l.drop i).length = l.length - i := List.length_drop; simp only [if_neg h2, Option.bind_some, if_pos (show (i : Int) ≤ (l.length : Int) by omega), bY, List.nil_append, List.length_nil, Nat.zero_add, lt, if_pos (show i < 8796093022208 by omega), List.length_cons, List.length_append, Nat.add_zero, if_pos (show i + 1 < 8796093022208 by omega), ld, if_pos (show i + 1 + (l.length - i) < 8796093022208 by omega)]; have e : l.take i ++ gx s (l.drop i) = l.take i ++ [s] ++ l.drop i := by rw [ed, gx, if_neg h1, if_neg h2, List.append_assoc]; rfl
    rw [e]; exact Ev.now _
theorem lD (s : ByteArray) (l : List ByteArray) (hn : l.length ≤ 1099511627776) : Ev (fun k => bi.f k l s) (gx s l) := by
 have := lF s l hn l.length 0 (by omega); simpa [bi.f] using this
open Classical in
theorem kB (L : List ByteArray) (hL : L.length ≤ 1048577) (hx : ∀ x ∈ L, x.size ≤ 1048576) : ∀ (d i : Nat) (acc : List ByteArray), i + d = L.length → acc.length ≤ i →
  Ev (fun k => bj.l0 k acc L (i : Int)) (if fY (L.drop i) then (jV acc (L.drop i), decide (L.length ≤ 4)) else ([], false)) := by
 intro d; induction d with
 | zero =>
  intro i acc hi ha; refine Ev.step (fun k => bj.l0.eq_2 _ _ _ _) ?_; simp only [if_neg (show ¬ ((i : Int) < (L.length : Int)) by omega)]; rw [List.drop_eq_nil_of_le (by omega), if_pos (show fY [] from fun x hx => by simp at hx)]; have e : decide ((L.length : Int) ≤ 4) = decide (L.length ≤ 4) := decide_eq_decide.2 ⟨fun h => by omega, fun h => by omega⟩; rw [e]; exact Ev.now _
 | succ d ih =>
  intro i acc hi ha; have hil : i < L.length := by omega
  have hxi := hx L[i] (List.getElem_mem _); have hl2 := jx L[i] acc; refine Ev.step (fun k => bj.l0.eq_2 _ _ _ _) ?_; simp only [if_pos (show ((i : Int) < (L.length : Int)) by omega), if_pos (show 0 ≤ (i : Int) by omega), iv _ L i hil, cg i (by omega)]; refine Ev.bind (eN L[i] (by omega)) ?_; rw [de L i hil]; cases hnm : eF (au L[i]) with
  | false =>
   simp only [if_neg (show ¬ (false = true) by decide)]; rw [if_neg (fun h => by have := (eI.1 h).1; rw [hnm] at this; cases this)]; exact Ev.now _
  | true =>
   simp only [if_true]; refine Ev.bind (lD L[i] acc (by omega)) ?_; have h := ih (i + 1) (gx L[i] acc) (by omega) (by omega); rw [mK]; by_cases hp : fY (L.drop (i + 1))
   ·rw [if_pos hp] at h; rw [if_pos (eI.2 ⟨hnm, hp⟩)]; exact h
   ·rw [if_neg hp] at h; rw [if_neg (fun h2 => hp (eI.1 h2).2)]; exact h
open Classical in
noncomputable def iA (s : ByteArray) : List ByteArray × Bool := if fY (ec 44 s) then (jV [] (ec 44 s), decide ((ec 44 s).length ≤ 4)) else ([], false)
theorem ju (s : ByteArray) (a b : Nat) : s.extract a b = mkT ((s.data.toList.drop a).take (b - a)) := by
 rw [← nD (s.extract a b), Lib.extract_data]
theorem ma (l : List UInt8) {f i : Nat} (hf : f ≤ i) : (l.drop f).take (i - f) ++ l.drop i = l.drop f := by
 have := List.take_append_drop (i - f) (l.drop f); rw [List.drop_drop, show f + (i - f) = i by omega] at this; exact this
theorem pY {l : List UInt8} {f i : Nat} (hf : f ≤ i) (hi : i < l.length) : (l.drop f).take (i + 1 - f) = (l.drop f).take (i - f) ++ [l[i]] := by
 have e : i + 1 - f = (i - f) + 1 := by omega
 rw [e, List.take_add_one, List.getElem?_drop, show f + (i - f) = i by omega, List.getElem?_eq_getElem hi]; rfl
theorem pB (a b : UInt8) : ((a.toNat : Int) = (b.toNat : Int)) ↔ a = b := ⟨fun h => UInt8.toNat_inj.1 (by omega), fun h => by rw [h]⟩
theorem qw (c : UInt8) (s : ByteArray) (hs : s.size ≤ 1099511627776) (most : Nat) : ∀ (d i f n : Nat) (out : List ByteArray), i + d = s.size → f ≤ i → out.length + n = most → out.length ≤ i →
  Ev (fun k => a8.l0 k s (c.toNat : Int) (most : Int) out (f : Int) (i : Int)) (out ++ (eq c n ((s.data.toList.drop f).take (i - f)) (s.data.toList.drop i)).map mkT) := by
 have hlen := fj s; have fin : ∀ (i f : Nat) (out : List ByteArray), f ≤ i → i ≤ s.size → out.length ≤ i → ∀ k, a8.j1 (k + 1) s (c.toNat : Int) (most : Int) out (f : Int) (i : Int) false = some (out ++ [mkT (s.data.toList.drop f)]) := by
  intro i f out hf hi ho k; have e := ju s f s.size; rw [List.take_of_length_le (by rw [List.length_drop]; omega)] at e; rw [a8.j1.eq_2]; simp only [if_neg (show ¬ (false = true) by decide), if_pos (show 0 ≤ (f : Int) by omega), if_pos (show (f : Int) ≤ (s.size : Int) by omega), if_pos (show out.length < 8796093022208 by omega), bY, e]
 have finE : ∀ (i f : Nat) (out : List ByteArray), f ≤ i → i ≤ s.size → out.length ≤ i → Ev (fun k => a8.j1 k s (c.toNat : Int) (most : Int) out (f : Int) (i : Int) false) (out ++ [mkT (s.data.toList.drop f)]) := by
  intro i f out hf hi ho; refine ⟨1, fun k hk => ?_⟩; obtain ⟨k, rfl⟩ : ∃ m, k = m + 1 := ⟨k - 1, by omega⟩; exact fin i f out hf hi ho k
 intro d; induction d with
 | zero =>
  intro i f n out hi hf hn ho; refine Ev.step (fun k => a8.l0.eq_2 _ _ _ _ _ _ _) ?_; simp only [if_neg (show ¬ ((i : Int) < (s.size : Int)) by omega)]; have e := ma s.data.toList hf; have e0 : s.data.toList.drop i = [] := List.drop_eq_nil_of_le (by omega); rw [e0, List.append_nil] at e; have hc : eq c n ((s.data.toList.drop f).take (i - f)) (s.data.toList.drop i) = [s.data.toList.drop f] := by
   rw [e0, e]; cases n <;> rfl
  rw [hc]; exact finE i f out hf (by omega) ho
 | succ d ih =>
  intro i f n out hi hf hn ho; refine Ev.step (fun k => a8.l0.eq_2 _ _ _ _ _ _ _) ?_; simp only [if_pos (show ((i : Int) < (s.size : Int)) by omega)]; cases n with
  | zero =>
   rw [decide_eq_false (show ¬ (out.length : Int) < (most : Int) by omega), gJ, ma _ hf]; exact finE i f out hf (by omega) ho
  | succ n =>
   rw [decide_eq_true (show (out.length : Int) < (most : Int) by omega)]; refine Ev.step (fun k => a8.j1.eq_2 _ _ _ _ _ _ _ _) ?_; have hil : i < s.data.toList.length := by omega
   have ed : s.data.toList.drop i = s.data.toList[i] :: s.data.toList.drop (i + 1) := List.drop_eq_getElem_cons hil; rw [ed]; simp only [if_true, if_pos (show 0 ≤ (i : Int) by omega), if_pos (show ((i : Int) < (s.size : Int)) by omega), pi s i hil, pB, cg i (by omega)]; by_cases hb : s.data.toList[i] = c
   ·have e := ju s f i; rw [eq, if_pos hb]; simp only [if_pos hb, if_pos (show 0 ≤ (f : Int) by omega), if_pos (show (f : Int) ≤ (i : Int) by omega), if_pos (show (i : Int) ≤ (s.size : Int) by omega), if_pos (show out.length < 8796093022208 by omega), bY, e]; have h := ih (i + 1) (i + 1) n (out ++ [mkT ((s.data.toList.drop f).take (i - f))]) (by omega) (Nat.le_refl _) (by simp; omega) (by simp; omega); rw [Nat.sub_self, List.take_zero, List.append_assoc] at h; exact h
   ·rw [eq, if_neg hb]; simp only [if_neg hb]; have h := ih (i + 1) f (n + 1) out (by omega) (by omega) hn (by omega); rw [pY hf hil] at h; exact h
theorem lg (c : UInt8) (n : Nat) (s : ByteArray) (hs : s.size ≤ 1099511627776) : Ev (fun k => a8.f k s (c.toNat : Int) (n : Int)) (cutT c n s) := by
 simp only [a8.f, cutT]; have := qw c s hs n s.size 0 0 n [] (by omega) (Nat.le_refl _) (by simp) (by simp); simpa using this
theorem j6 (s : ByteArray) (hs : s.size ≤ 1048576) : Ev (fun k => bj.f k s) (iA s) := by
 have hlen := gX 44 s; simp only [bj.f, cg s.size (by omega)]; have h1 := lg 44 (s.size + 1) s (by omega); rw [rm] at h1; refine Ev.bind h1 ?_; have h := kB (ec 44 s) (by omega) (fun x hx => by have := jv hx; omega) (ec 44 s).length 0 [] (by omega) (by simp); rw [List.drop_zero] at h; exact h
theorem oD (s : ByteArray) : (iA s).2 = true ↔ kc s := by
 unfold iA kc
 split
 ·rename_i h
  simp only [decide_eq_true_eq]; exact ⟨fun h2 => ⟨h, h2⟩, fun h2 => h2.2⟩
 ·rename_i h
  exact ⟨(fun h2 => by cases h2), fun h2 => absurd h2.1 h⟩
open Classical in
theorem ke (a : ByteArray) (b c : Int) (s : ByteArray) (hs : s.size ≤ 1048576) : Ev (fun k => dy.f k a b c s) (decide (er s 60 = true ∧ js b s)) := by
 obtain ⟨v, hv⟩ := jc s hs; have ht := oD s; simp only [dy.f]; refine Ev.bind hv ?_; refine Ev.bind (j6 s hs) ?_; refine Ev.bind (gw s (by omega)) ?_; unfold js
 cases hp : er s 60 with
 | false => simp only [if_neg (show ¬ (false = true) by decide)]; exact bA (fun h => by cases h.1) (Ev.now _)
 | true =>
  simp only [if_true]; have third : Ev (fun _ : Nat => some ((iA s).2)) (decide (kc s)) := by
   have e : (iA s).2 = decide (kc s) := by rw [Bool.eq_iff_iff, decide_eq_true_eq]; exact ht
   rw [e]; exact Ev.now _
  by_cases h1 : b = 1
  ·simp only [if_pos h1]; exact ez ⟨(by first | trivial | rfl), Or.inl h1⟩ (Ev.now _)
  ·simp only [if_neg h1]; by_cases h2 : b = 2
   ·simp only [if_pos h2]; cases hn : (hJ s).2 with
    | true => simp only [if_true]; exact ez ⟨(by first | trivial | rfl), Or.inr (Or.inl ⟨h2, (by first | trivial | rfl)⟩)⟩ (Ev.now _)
    | false =>
     simp only [if_neg (show ¬ (false = true) by decide), if_neg (show ¬ b = 3 by omega)]; refine bA (fun h => ?_) (Ev.now _); rcases h.2 with h | ⟨_, h⟩ | ⟨h, _⟩
     ·exact h1 h
     ·first | exact absurd h (by simp) | cases h
     ·omega
   ·simp only [if_neg h2]; by_cases h3 : b = 3
    ·simp only [if_pos h3]; refine cS ?_ third; exact ⟨fun h => ⟨(by first | trivial | rfl), Or.inr (Or.inr ⟨h3, h⟩)⟩, fun h => by
      rcases h.2 with h | ⟨h, _⟩ | ⟨_, h⟩
      ·exact absurd h h1
      ·exact absurd h h2
      ·exact h⟩
    ·simp only [if_neg h3]; refine bA (fun h => ?_) (Ev.now _); rcases h.2 with h | ⟨h, _⟩ | ⟨h, _⟩
     ·exact h1 h
     ·exact h2 h
     ·exact h3 h
open Classical in
theorem jb (l : List S92) (hn : l.length ≤ 1048577) (hs : ∀ x ∈ l, x.f0.size ≤ 1048576) : ∀ (d i : Nat), i + d = l.length → Ev (fun k => ap.l0 k l (i : Int)) (decide (dB l i)) := by
 intro d; induction d with
 | zero =>
  intro i hi; refine Ev.step (fun k => ap.l0.eq_2 _ _ _) ?_; simp only [if_neg (show ¬ ((i : Int) < (l.length : Int)) by omega), d6, Option.bind_some]; refine cL (gt (by omega)).symm ?_; refine gA fun _ => ?_
  congr 1; exact decide_eq_decide.2 (by omega)
 | succ d ih =>
  intro i hi; have hst := gf (l := l) (j := i) (by omega); have hsz := hs l[i] (List.getElem_mem _); refine Ev.step (fun k => ap.l0.eq_2 _ _ _) ?_; simp only [if_pos (show ((i : Int) < (l.length : Int)) by omega), if_pos (show 0 ≤ (i : Int) by omega), en l i (by omega), d6, Option.bind_some]; have hj2 : ∀ (t o : Bool), ((t || o) = true ↔ fK l[i]) → Ev (fun k => ap.j2 k l (i : Int) t o l[i].f0 l[i].f1 l[i].f2) (decide (dB l i)) := by
   intro t o hto; refine Ev.step (fun k => ap.j2.eq_2 _ _ _ _ _ _ _ _) ?_; refine Ev.bind (eN l[i].f0 (by omega)) ?_; cases hnm : eF (au l[i].f0) with
   | false =>
    simp only [if_neg (show ¬ (false = true) by decide)]; refine cy (fun h => ?_) (Ev.now _); have := fO.2 (hst.1 h).1.1; rw [hnm] at this; cases this
   | true =>
    simp only [if_true]; obtain ⟨r, hr, hq⟩ := fb l l[i].f0 (by omega); refine Ev.bind hr ?_; by_cases he : r = (i : Int)
    ·have hfirst : ∀ m (hm : m < i), l[m].f0 ≠ l[i].f0 := by
      rcases hq with hq | ⟨j, hj, h1, h2, h3⟩
      ·omega
      ·obtain rfl : j = i := by omega
       exact h3
     simp only [if_pos he, cg i (by omega)]; have hnext := ih (i + 1) (by omega); by_cases hp : fK l[i]
     ·have hb := hto.2 hp; have hgoal : Ev (fun k => ap.l0 k l ((i + 1 : Nat) : Int)) (decide (dB l i)) := cL (hst.trans ⟨fun h => h.2, fun h => ⟨⟨fO.1 hnm, hp, hfirst⟩, h⟩⟩).symm hnext; cases t with
      | true => simp only [if_true]; exact hgoal
      | false =>
       have ho : o = true := by simpa using hb
       simp only [if_neg (show ¬ (false = true) by decide), ho, if_true]; exact hgoal
     ·have hb : (t || o) = false := by rw [Bool.eq_false_iff]; exact fun h => hp (hto.1 h)
      have ht : t = false := by cases t; rfl; simp at hb
      have ho : o = false := by cases o; rfl; simp at hb
      simp only [ht, ho, if_neg (show ¬ (false = true) by decide)]; exact cy (fun h => hp (hst.1 h).1.2.1) (Ev.now _)
    ·simp only [if_neg he]; refine cy (fun h => ?_) (Ev.now _); have h4 := (hst.1 h).1.2.2; rcases hq with ⟨h1, h2⟩ | ⟨j, hj, h1, h2, h3⟩
     ·exact h2 l[i] (List.getElem_mem _) rfl
     ·rcases Nat.lt_trichotomy j i with h5 | h5 | h5
      ·exact h4 j h5 h2
      ·exact he (by omega)
      ·exact h3 i h5 rfl
  have hj1 : ∀ (t : Bool), (t = true ↔ (l[i].f1 = 1 ∧ 1 ≤ l[i].f2 ∧ l[i].f2 ≤ 9)) → Ev (fun k => ap.j1 k l (i : Int) t l[i].f0 l[i].f1 l[i].f2) (decide (dB l i)) := by
   intro t ht; refine Ev.step (fun k => ap.j1.eq_2 _ _ _ _ _ _ _) ?_; simp only [d6, Option.bind_some, decide_eq_true_eq]; by_cases h2 : 2 ≤ l[i].f1 ∧ l[i].f1 ≤ 3
   ·simp only [if_pos h2]; refine hj2 t _ ?_; unfold fK
    rw [Bool.or_eq_true, ht, beq_iff_eq]; constructor
    ·rintro (h | h)
     ·exact .inl h
     ·exact .inr ⟨h2.1, h2.2, h⟩
    ·rintro (h | h)
     ·exact .inl h
     ·exact .inr h.2.2
   ·simp only [if_neg h2]; refine hj2 t false ?_; unfold fK
    rw [Bool.or_false, ht]; exact ⟨.inl, fun h => h.resolve_right (fun h3 => h2 ⟨h3.1, h3.2.1⟩)⟩
  by_cases h1 : l[i].f1 = 1
  ·simp only [if_pos h1]; refine hj1 _ ?_; rw [decide_eq_true_eq]; exact ⟨fun h => ⟨h1, h⟩, fun h => h.2⟩
  ·simp only [if_neg h1]; exact hj1 false ⟨(fun h => by cases h), fun h => absurd h.1 h1⟩
theorem fP (l : List S92) (hn : l.length ≤ 1048577) (hs : ∀ x ∈ l, x.f0.size ≤ 1048576) : Ev (fun k => ap.f k l) (eW l) := jb l hn hs l.length 0 (by omega)
open Classical in
theorem lc (F : List S92) (hF : F.length ≤ 1048576) (hFs : ∀ x ∈ F, x.f0.size ≤ 1048576) (key : ByteArray) (l : List S86) (hk : key.size ≤ 1048576) (hn : l.length ≤ 1048576) (hs : ∀ x ∈ l, x.f0.size ≤ 1048576 ∧ x.f1.size ≤ 1048576) : ∀ (d i : Nat), i + d = l.length →
  Ev (fun k => ba.l0 k F (i : Int) key l) (decide ((∀ c ∈ l.drop i, er c.f1 60 = true ∧ js (eo F c.f0) c.f1) ∧ eW F = true ∧ jw key l = true)) := by
 intro d; induction d with
 | zero =>
  intro i hi; refine Ev.step (fun k => ba.l0.eq_2 _ _ _ _ _) ?_; simp only [if_neg (show ¬ ((i : Int) < (l.length : Int)) by omega)]; rw [List.drop_eq_nil_of_le (by omega)]; refine Ev.bind (fP F (by omega) hFs) ?_; cases hf : eW F with
  | false => simp only [if_neg (show ¬ (false = true) by decide)]; exact bA (fun h => by cases h.2.1) (Ev.now _)
  | true =>
   simp only [if_true]; refine Ev.bind (ku key l hk hn hs) ?_; cases hm : jw key l with
   | false => exact bA (fun h => by cases h.2.2) (Ev.now _)
   | true => exact ez ⟨fun c hc => by simp at hc, (by first | trivial | rfl), (by first | trivial | rfl)⟩ (Ev.now _)
 | succ d ih =>
  intro i hi; have hil : i < l.length := by omega
  have hsz := hs l[i] (List.getElem_mem _); obtain ⟨r, hr, hq⟩ := fb F l[i].f0 (by omega); refine Ev.step (fun k => ba.l0.eq_2 _ _ _ _ _) ?_; rw [de l i hil]; simp only [if_pos (show ((i : Int) < (l.length : Int)) by omega), if_pos (show 0 ≤ (i : Int) by omega), e7 l i hil, cg i (by omega)]; refine Ev.bind hr ?_; rcases hq with ⟨rfl, hno⟩ | ⟨j, hj, rfl, hj2, hjb⟩
  ·simp only [if_pos (show (-1 : Int) < 0 by decide)]; refine bA (fun h => ?_) (Ev.now _); have h1 := (h.1 l[i] (List.mem_cons_self ..)).2; unfold eo at h1
   rw [f7 hno] at h1; rcases h1 with h1 | ⟨h1, _⟩ | ⟨h1, _⟩ <;> exact absurd h1 (by decide)
  ·have hk2 : eo F l[i].f0 = F[j].f1 := by unfold eo; rw [fX hj hj2 hjb]
   simp only [if_neg (show ¬ (j : Int) < 0 by omega), if_pos (show 0 ≤ (j : Int) by omega), if_pos (show (j : Int) < (F.length : Int) by omega), en F j hj]; refine Ev.bind (ke _ _ _ l[i].f1 hsz.2) ?_; by_cases hc : er l[i].f1 60 = true ∧ js F[j].f1 l[i].f1
   ·rw [decide_eq_true hc]; simp only [if_true]; refine cS ⟨fun h => ⟨fun c hcm => ?_, h.2⟩, fun h => ⟨fun c hcm => h.1 c (List.mem_cons_of_mem _ hcm), h.2⟩⟩ (ih (i + 1) (by omega)); rcases List.mem_cons.1 hcm with rfl | hcm
    ·rw [hk2]; exact hc
    ·exact h.1 c hcm
   ·rw [decide_eq_false hc]; simp only [if_neg (show ¬ (false = true) by decide)]; refine bA (fun h => hc ?_) (Ev.now _); have := h.1 l[i] (List.mem_cons_self ..); rw [hk2] at this; exact this
open Classical in
theorem lB (F : List S92) (hF : F.length ≤ 1048576) (hFs : ∀ x ∈ F, x.f0.size ≤ 1048576) (key : ByteArray) (l : List S86) (hk : key.size ≤ 1048576) (hn : l.length ≤ 1048576) (hs : ∀ x ∈ l, x.f0.size ≤ 1048576 ∧ x.f1.size ≤ 1048576) : Ev (fun k => ba.f k F key l) (gj F key l) := by
 simp only [ba.f, gj]; have h := lc F hF hFs key l hk hn hs l.length 0 (by omega); rw [List.drop_zero] at h; refine cS ?_ h; unfold iY
 exact ⟨fun h => ⟨h.2.1, h.2.2, fun c hc => (h.1 c hc).2⟩, fun h => ⟨fun c hc => ⟨((kV h.2.1).1 c hc).2, h.2.2 c hc⟩, h.1, h.2.1⟩⟩
theorem qM (R : List S46) (hR : R.length ≤ 1099511627776) (key : ByteArray) : Ev (fun k => bK.f k R key) (eb key 0 R) := by
 have main : ∀ (d i : Nat), i + d = R.length → Ev (fun k => bK.l0 k R key (i : Int)) (eb key i (R.drop i)) := by
  intro d; induction d with
  | zero =>
   intro i hi; refine Ev.step (fun k => bK.l0.eq_2 _ _ _ _) ?_; simp only [if_neg (show ¬ ((i : Int) < (R.length : Int)) by omega)]; rw [List.drop_eq_nil_of_le (by omega), eb]; exact Ev.now _
  | succ d ih =>
   intro i hi; have hil : i < R.length := by omega
   refine Ev.step (fun k => bK.l0.eq_2 _ _ _ _) ?_; rw [de R i hil, eb]; simp only [if_pos (show ((i : Int) < (R.length : Int)) by omega), if_pos (show (0 : Int) ≤ (i : Int) by omega), iy R i hil, cg i (by omega), beq_iff_eq]; by_cases h : R[i].f1.f0.toList = key.toList
   ·simp only [if_pos h]; exact Ev.now _
   ·simp only [if_neg h]; exact ih (i + 1) (by omega)
 have := main R.length 0 (by omega); simpa [bK.f] using this
open Classical in
theorem qc (a b : List Int) (ha : a.length ≤ 1099511627776) : Ev (fun k => bJ.f k a b) (decide (a = b)) := by
 simp only [bJ.f]; by_cases hl : a.length = b.length
 ·simp only [if_pos (show (a.length : Int) = (b.length : Int) by omega)]; have main : ∀ (d i : Nat), i + d = a.length → Ev (fun k => bJ.l0 k a b (i : Int)) (decide (a.drop i = b.drop i)) := by
   intro d; induction d with
   | zero =>
    intro i hi; refine Ev.step (fun k => bJ.l0.eq_2 _ _ _ _) ?_; simp only [if_neg (show ¬ ((i : Int) < (a.length : Int)) by omega)]; rw [List.drop_eq_nil_of_le (by omega), List.drop_eq_nil_of_le (by omega)]; exact ez rfl (Ev.now _)
   | succ d ih =>
    intro i hi; have hia : i < a.length := by omega
    have hib : i < b.length := by omega
    refine Ev.step (fun k => bJ.l0.eq_2 _ _ _ _) ?_; simp only [if_pos (show ((i : Int) < (a.length : Int)) by omega), if_pos (show (0 : Int) ≤ (i : Int) by omega), if_pos (show ((i : Int) < (b.length : Int)) by omega), iZ a i hia, iZ b i hib, cg i (by omega)]; by_cases h : a[i] = b[i]
    ·simp only [if_pos h]; exact cS ⟨fun h2 => (co hia hib).2 ⟨h, h2⟩, fun h2 => ((co hia hib).1 h2).2⟩ (ih (i + 1) (by omega))
    ·simp only [if_neg h]; exact bA (fun h2 => h ((co hia hib).1 h2).1) (Ev.now _)
  have := main a.length 0 (by omega); simpa using this
 ·simp only [if_neg (show ¬ (a.length : Int) = (b.length : Int) by omega)]; exact bA (fun h => hl (by rw [h])) (Ev.now _)
open Classical in
theorem iw : ∀ (a b : List S50), a.length = b.length → (∀ p ∈ a, p.f1.length ≤ 1099511627776) → Ev (fun k => av.ps k a b) (decide (a = b))
 | [], [], _, _ => ez rfl (gA (fun k => by rw [av.ps]; intro _ _ _ _ h; cases h))
 | p :: a, q :: b, hl, hs => by
  have ih := iw a b (by simpa using hl) (fun x hx => hs x (List.mem_cons_of_mem _ hx)); have hi := qc p.f1 q.f1 (hs p (by simp)); simp only [av.ps]; by_cases h0 : p.f0 = q.f0
  ·simp only [if_pos h0]; refine Ev.bind hi ?_; by_cases h1 : p.f1 = q.f1
   ·rw [decide_eq_true h1]; simp only [if_true]; exact cS ⟨fun h => by rw [h, ml.2 ⟨h0, h1⟩], fun h => (List.cons.inj h).2⟩ ih
   ·rw [decide_eq_false h1]; simp only [if_neg (show ¬ (false = true) by decide)]; exact bA (fun h => h1 (by rw [(List.cons.inj h).1])) (Ev.now _)
  ·simp only [if_neg h0]; exact bA (fun h => h0 (by rw [(List.cons.inj h).1])) (Ev.now _)
 | [], _ :: _, h, _ => by simp at h
 | _ :: _, [], h, _ => by simp at h
open Classical in
theorem ir : ∀ (a b : List S76), a.length = b.length → (∀ e ∈ a, ∀ p ∈ e.f2, p.f1.length ≤ 1099511627776) → Ev (fun k => av.es k a b) (decide (a = b))
 | [], [], _, _ => ez rfl (gA (fun k => by rw [av.es]; intro _ _ _ _ h; cases h))
 | p :: a, q :: b, hl, hs => by
  have ih := ir a b (by simpa using hl) (fun x hx => hs x (List.mem_cons_of_mem _ hx)); simp only [av.es, toList_inj]; by_cases h0 : p.f0 = q.f0
  ·simp only [if_pos h0]; by_cases h1 : p.f1 = q.f1
   ·simp only [if_pos h1]; by_cases h2 : p.f2.length = q.f2.length
    ·simp only [if_pos h2]; refine Ev.bind (iw p.f2 q.f2 h2 (hs p (by simp))) ?_; by_cases h3 : p.f2 = q.f2
     ·rw [decide_eq_true h3]; simp only [if_true]; exact cS ⟨fun h => by rw [h, kP.2 ⟨h0, h1, h3⟩], fun h => (List.cons.inj h).2⟩ ih
     ·rw [decide_eq_false h3]; simp only [if_neg (show ¬ (false = true) by decide)]; exact bA (fun h => h3 (by rw [(List.cons.inj h).1])) (Ev.now _)
    ·simp only [if_neg h2]; exact bA (fun h => h2 (by rw [(List.cons.inj h).1])) (Ev.now _)
   ·simp only [if_neg h1]; exact bA (fun h => h1 (by rw [(List.cons.inj h).1])) (Ev.now _)
  ·simp only [if_neg h0]; exact bA (fun h => h0 (by rw [(List.cons.inj h).1])) (Ev.now _)
 | [], _ :: _, h, _ => by simp at h
 | _ :: _, [], h, _ => by simp at h
open Classical in
theorem k8 (a b : List S76) (hs : ∀ e ∈ a, ∀ p ∈ e.f2, p.f1.length ≤ 1099511627776) : Ev (fun k => av.f k a b) (decide (a = b)) := by
 simp only [av.f]; by_cases hl : a.length = b.length
 ·simp only [if_pos hl]; exact ir a b hl hs
 ·simp only [if_neg hl]; exact bA (fun h => hl (by rw [h])) (Ev.now _)
open Classical in
theorem jJ {F : List S92} {R : List S46} {E : List S76} (hz : iT F R E) (n : Int) : ∀ (d i : Nat), i + d = R.length → (∀ (j : Nat) (h : j < R.length), j < i → m6 F R n j h) → Ev (fun k => am.l0 k (i : Int) F R E n) (decide (dr F R n i ∧ gZ F R E n)) := by
 have hr := hz.r; intro d; induction d with
 | zero =>
  intro i hi hprev; have hall : dr F R n 0 := fun j hj _ => hprev j hj (by omega)
  have hend : dr F R n i := fun j hj hij => by omega
  refine Ev.step (fun k => am.l0.eq_2 _ _ _ _ _ _) ?_; simp only [if_neg (show ¬ ((i : Int) < (R.length : Int)) by omega)]; refine Ev.bind (fP F (by have := hz.f; omega) hz.fs) ?_; cases hf : eW F with
  | false => simp only [if_neg (show ¬ (false = true) by decide)]; exact bA (fun h => by have := h.2.1; rw [hf] at this; cases this) (Ev.now _)
  | true =>
   simp only [if_true]; by_cases h8 : R.length ≤ 8
   ·simp only [if_pos (show ((R.length : Int) ≤ 8) by omega), d6, Option.bind_some]; by_cases hn : 0 ≤ n ∧ n ≤ 999999999
    ·simp only [decide_eq_true hn, if_true]; obtain ⟨L, h1, h2, h3⟩ := kj F hz.f R (lT hall) h8; refine Ev.bind h2 ?_; refine Ev.bind (k8 L E (fun e he p hp => by have := ((h3.2 e he).2).2 p hp; omega)) ?_; refine cS ⟨fun h => ⟨hend, hf, h8, hn, by rw [← h]; exact h2⟩, fun h => lV h2 h.2.2.2.2⟩ (Ev.now (decide (L = E)))
    ·simp only [decide_eq_false hn, if_neg (show ¬ (false = true) by decide)]; exact bA (fun h => hn h.2.2.2.1) (Ev.now _)
   ·simp only [if_neg (show ¬ ((R.length : Int) ≤ 8) by omega)]; exact bA (fun h => h8 h.2.2.1) (Ev.now _)
 | succ d ih =>
  intro i hi hprev; have hil : i < R.length := by omega
  have hs := hz.rs _ (List.getElem_mem hil); have next : m6 F R n i hil → Ev (fun k => am.l0 k ((i + 1 : Nat) : Int) F R E n) (decide (dr F R n i ∧ gZ F R E n)) := fun hp =>
   cS ⟨fun h => ⟨(d9 hil).2 ⟨hp, h.1⟩, h.2⟩, fun h => ⟨((d9 hil).1 h.1).2, h.2⟩⟩ (ih (i + 1) (by omega) (fun j hj hji => by
    rcases Nat.lt_or_ge j i with hlt | hge
    ·exact hprev j hj hlt
    ·obtain rfl : j = i := by omega
     exact hp))
  have stop : ¬ m6 F R n i hil → Ev (fun _ : Nat => some false) (decide (dr F R n i ∧ gZ F R E n)) := fun hp => bA (fun h => hp ((d9 hil).1 h.1).1) (Ev.now _)
  refine Ev.step (fun k => am.l0.eq_2 _ _ _ _ _ _) ?_; simp only [if_pos (show ((i : Int) < (R.length : Int)) by omega), if_pos (show (0 : Int) ≤ (i : Int) by omega), iy R i hil, cg i (by omega)]; refine Ev.bind (lB F hz.f hz.fs R[i].f1.f0 R[i].f1.f1 hs.1 hs.2.1 hs.2.2) ?_; cases hd : gj F R[i].f1.f0 R[i].f1.f1 with
  | false => simp only [if_neg (show ¬ (false = true) by decide)]; exact stop (fun h => by have := h.1; rw [hd] at this; cases this)
  | true =>
   simp only [if_true]; refine Ev.bind (qM R (by omega) R[i].f1.f0) ?_; by_cases hk : eb R[i].f1.f0 0 R = (i : Int)
   ·simp only [if_pos hk, d6, Option.bind_some]; by_cases hin : 0 ≤ R[i].f0 ∧ R[i].f0 ≤ wrap64 (n - 1)
    ·simp only [decide_eq_true hin, if_true]; by_cases h0 : 0 < i
     ·obtain ⟨m, rfl⟩ : ∃ m, i = m + 1 := ⟨i - 1, by omega⟩; simp only [if_pos (show ((m + 1 : Nat) : Int) > 0 by omega), wpred m (by omega), if_pos (show (0 : Int) ≤ (m : Int) by omega), if_pos (show ((m : Int) < (R.length : Int)) by omega), iy R m (by omega)]; by_cases ho : R[m].f0 ≥ R[m + 1].f0
      ·simp only [if_pos ho]; exact stop (fun h => by have h2 : R[m].f0 < R[m + 1].f0 := h.2.2.2 h0; omega)
      ·simp only [if_neg ho]; exact next ⟨hd, hk, hin, fun _ => by show R[m].f0 < R[m + 1].f0; omega⟩
     ·simp only [if_neg (show ¬ ((i : Int) > 0) by omega)]; exact next ⟨hd, hk, hin, fun h => absurd h h0⟩
    ·simp only [decide_eq_false hin, if_neg (show ¬ (false = true) by decide)]; exact stop (fun h => hin h.2.2.1)
   ·simp only [if_neg hk]; exact stop (fun h => hk h.2.1)
theorem jL {F : List S92} {R : List S46} {E : List S76} (hz : iT F R E) (n : Int) : Ev (fun k => am.f k F R E n) (mj F R E n) := by
 have := jJ hz n R.length 0 (by omega) (fun j hj h => by omega); simpa [am.f, mj] using this
theorem FnExactIndexOk : bM.PureX := by
 intro F R E n hF hR hE hn; have hm : maxLen = 9223372036854775807 := rfl; refine Ev.rounds (g := fun k => bM.f k F R E n) ?_; simp only [bM.f]; obtain ⟨r, hr, hq⟩ := oK F R E n ⟨by omega, fun x hx => by have := hF.2 x hx; unfold fg; have := this.1; omega⟩
  ⟨by omega, fun x hx => by
   obtain ⟨_, b, c, d⟩ := hR.2 x hx; exact ⟨b, c, fun y hy => by have := d y hy; unfold fu; exact ⟨by have := this.1; omega, by have := this.2; omega⟩⟩⟩
  ⟨by omega, fun x hx => by
   obtain ⟨a, b, c, d⟩ := hE.2 x hx; exact ⟨a, b, c, fun y hy => (d y hy).2.1⟩⟩
 refine Ev.bind hr ?_; rcases hq with hq | ⟨q0, q1⟩
 ·simp only [hq, if_pos (show (-1 : Int) < 0 by omega)]; exact Ev.now _
 simp only [if_neg (show ¬ r < 0 by omega)]; have hz := pq q1; refine Ev.bind (g9 F R E n q1) ?_; refine Ev.bind (jL hz n) ?_; refine Ev.bind (g9 F R E n q1) ?_; refine Ev.bind (jK hz n) ?_; simp only [bne_self_eq_false, if_neg (show ¬ (false = true) by decide)]; refine Ev.bind (g9 F R E n q1) ?_; refine Ev.bind (mC hz n) ?_; simp only [if_true]; exact Ev.now _
end Go.Proofs.YtnjjdojonflckaaGreatDoor.Pure
