/- The plain law of FnExactIndexDoc: whatever the input, the printed function of this law answers true after enough rounds; conditions: only the sizes and kinds that the law's Pure states. -/
import Derived.Test.YtnjjdojonflckaaGreatDoorUSFnExactIndexDoc
import Derived.Lib.IndexBytes
import Derived.Lib.SplitLaws
import Derived.Lib.AtoiAllCases
import Derived.Lib.ItoaNum
import Derived.Lib.Strings
namespace Go.Proofs.YtnjjdojonflckaaGreatDoor.Pure
open Go.RowKit Go.Proofs.YtnjjdojonflckaaGreatDoor.PFnExactIndexDoc Go.Proofs.YtnjjdojonflckaaGreatDoorW.PrintWords Go.Proofs.YtnjjdojonflckaaGreatDoorW.PrintLast Go.Proofs.YtnjjdojonflckaaGreatDoorW.PrintMore
set_option linter.unusedVariables false
set_option linter.unusedSimpArgs false
theorem jy (s : ByteArray) : s.toList = s.data.toList := by
 exact ByteArray.toList_eq s
theorem toList_inj {a b : ByteArray} : a.toList = b.toList ↔ a = b := by
 rw [jy, jy]; constructor
 ·intro h; exact ByteArray.ext (Array.toList_inj.1 h)
 ·rintro rfl; rfl
open Classical in
theorem qt (x y : S86) : ej.f x.f0 x.f1 y.f0 y.f1 = some (decide (x = y)) := by
 obtain ⟨a0, a1⟩ := x; obtain ⟨b0, b1⟩ := y; simp only [ej.f, toList_inj]; by_cases h0 : a0 = b0
 case neg => simp [h0]
 by_cases h1 : a1 = b1
 case neg => simp [h0, h1]
 simp [h0, h1]
theorem eE (l : List S86) (j : Nat) (h : j < l.length) : ac l (j : Int) = l[j] := by
 unfold ac; simp [List.getD_eq_getElem?_getD, List.getElem?_eq_getElem h]
theorem ct {α : Type} {a b : List α} {j : Nat} (ha : j < a.length) (hb : j < b.length) : a.drop j = b.drop j ↔ a[j] = b[j] ∧ a.drop (j + 1) = b.drop (j + 1) := by
 rw [List.drop_eq_getElem_cons ha, List.drop_eq_getElem_cons hb, List.cons.injEq]
theorem cy {g : Nat → Option Bool} {p : Prop} [Decidable p] (h : ¬ p) (k : Ev g false) : Ev g (decide p) := by
 rw [decide_eq_false h]; exact k
theorem cN {g : Nat → Option Bool} {p q : Prop} [Decidable p] [Decidable q] (h : p ↔ q) (k : Ev g (decide p)) : Ev g (decide q) := by
 have : decide p = decide q := decide_eq_decide.2 h; rw [← this]; exact k
theorem jX {g : Nat → Option Bool} {p : Prop} [Decidable p] (h : p) (k : Ev g true) : Ev g (decide p) := by
 rw [decide_eq_true h]; exact k
theorem bx {x : Int} (h0 : -9223372036854775808 ≤ x) (h1 : x ≤ 9223372036854775807) : wrap64 x = x := by unfold wrap64; omega
theorem b9 (j : Nat) (h : j < 9223372036854775807) : wrap64 ((j : Int) + 1) = ((j + 1 : Nat) : Int) := by rw [bx (by omega) (by omega)]; omega
open Classical in
theorem oV (a b : List S86) (hn : a.length < 4611686018427387904) (hl : a.length = b.length) : ∀ (d i : Nat), i + d = a.length →
  Ev (fun k => aZ.l0 k a b (i : Int)) (decide (a.drop i = b.drop i)) := by
 intro d; induction d with
 | zero =>
  intro i hi; refine Ev.step (fun k => aZ.l0.eq_2 _ _ _ _) ?_; simp only [if_neg (show ¬ ((i : Int) < (a.length : Int)) by omega)]; rw [List.drop_of_length_le (by omega), List.drop_of_length_le (by omega)]; exact jX rfl (Ev.now _)
 | succ d ih =>
  intro i hi; refine Ev.step (fun k => aZ.l0.eq_2 _ _ _ _) ?_; simp only [if_pos (show ((i : Int) < (a.length : Int)) by omega), if_pos (show 0 ≤ (i : Int) by omega), if_pos (show ((i : Int) < (b.length : Int)) by omega), b9 i (by omega), eE a i (by omega), eE b i (by omega), qt, Option.bind_some, decide_eq_true_eq]; have hs := ct (a := a) (b := b) (show i < a.length by omega) (show i < b.length by omega); by_cases h : a[i] = b[i]
  ·simp only [if_pos h]; exact cN (hs.trans ⟨fun h1 => h1.2, fun h1 => ⟨h, h1⟩⟩).symm (ih (i + 1) (by omega))
  ·simp only [if_neg h]; exact cy (fun h1 => h (hs.1 h1).1) (Ev.now _)
open Classical in
theorem oy (a b : List S86) (hn : a.length < 4611686018427387904) : Ev (fun k => aZ.f k a b) (decide (a = b)) := by
 simp only [aZ.f]; by_cases hl : a.length = b.length
 ·simp only [if_pos (show (a.length : Int) = (b.length : Int) by omega)]; exact oV a b hn hl a.length 0 (by omega)
 ·simp only [if_neg (show ¬ (a.length : Int) = (b.length : Int) by omega)]; exact cy (fun h => hl (by rw [h])) (Ev.now _)
open Classical in
theorem rl (k1 : ByteArray) (c1 : List S86) (k2 : ByteArray) (c2 : List S86) (hn : c1.length < 4611686018427387904) : Ev (fun k => cr.f k k1 c1 k2 c2) (decide (k1 = k2 ∧ c1 = c2)) := by
 simp only [cr.f, toList_inj]; by_cases h : k1 = k2
 ·simp only [if_pos h]; refine Ev.bind (oy c1 c2 hn) ?_; by_cases h2 : c1 = c2
  ·simp only [decide_eq_true h2, if_true]; exact jX ⟨h, h2⟩ (Ev.now _)
  ·simp only [decide_eq_false h2]; exact cy (fun h3 => h2 h3.2) (Ev.now _)
 ·simp only [if_neg h]; exact cy (fun h3 => h h3.1) (Ev.now _)
open Classical in
theorem f5 (k1 : ByteArray) (c1 : List S86) (hn : c1.length < 4611686018427387904) : Ev (fun k => cr.f k k1 c1 k1 c1) true := by
 have := rl k1 c1 k1 c1 hn; rwa [decide_eq_true ⟨rfl, rfl⟩] at this
def fy (x : dY) : Prop := x.f0.size ≤ 9223372036854775807 ∧ x.f1.size ≤ 9223372036854775807
def io (x : dU) : S92 := ⟨x.f0, x.f1, x.f2⟩
def fu (x : dU) : Prop := x.f0.size ≤ 9223372036854775807
open Classical in
noncomputable def MT (n : Int) : ByteArray := if h : ∃ r, Ev (fun k => ax.f k n) r then Classical.choose h else ByteArray.empty
noncomputable def dG (a : Int) : Nat → List S86
 | 0 => []
 | m + 1 => ⟨MT a, MT (a + 1)⟩ :: dG (a + 2) m
theorem gB (a : Int) (m : Nat) : (dG a m).length = m := by
 induction m generalizing a with
 | zero => rfl
 | succ m ih => simp [dG, ih]
theorem cZ {α : Type} (l : List α) (j : Nat) (h : j < l.length) : l.drop j = l[j] :: l.drop (j + 1) := List.drop_eq_getElem_cons h
theorem na : ∀ (d : Nat) (n : Int) (s : ByteArray), 0 ≤ n → n ≤ 9223372036854775807 → n < 10 ^ d → s.size + d ≤ 1000 → ∃ r, Ev (fun k => ax.l0 k n s) r := by
 intro d; induction d with
 | zero =>
  intro n s h0 hm h1 hs; refine ⟨(⟨#[109]⟩ : ByteArray) ++ s, Ev.step (fun k => ax.l0.eq_2 _ _ _) ?_⟩; simp only [if_neg (show ¬ n > 0 by simp at h1; omega), if_pos (show 1 + s.size ≤ 9223372036854775807 by omega)]; exact Ev.now _
 | succ d ih =>
  intro n s h0 hm h1 hs; by_cases hp : n > 0
  ·have e : Int.tdiv n 10 = n / 10 := Int.tdiv_eq_ediv_of_nonneg h0; have hq : n / 10 < 10 ^ d := by
    have : n < 10 ^ d * 10 := by rw [← Int.pow_succ]; exact h1
    omega
   obtain ⟨r, hr⟩ := ih (n / 10) ((strOfNums [(wrap64 (48 + (Int.tmod n 10))) % 256]) ++ s) (by omega) (by omega) hq (by rw [ByteArray.size_append, strOfNums_size]; simp; omega); refine ⟨r, Ev.step (fun k => ax.l0.eq_2 _ _ _) ?_⟩; simp only [if_pos hp, Option.bind_some, strOfNums_size, List.length_singleton, if_pos (show 1 + s.size ≤ 9223372036854775807 by omega), e, bx (x := n / 10) (by omega) (by omega)]; exact hr
  ·refine ⟨(⟨#[109]⟩ : ByteArray) ++ s, Ev.step (fun k => ax.l0.eq_2 _ _ _) ?_⟩; simp only [if_neg hp, if_pos (show 1 + s.size ≤ 9223372036854775807 by omega)]; exact Ev.now _
theorem ne (n : Int) (h0 : 0 ≤ n) (h1 : n ≤ 9223372036854775807) : ∃ r, Ev (fun k => ax.f k n) r := by
 simp only [ax.f]; by_cases h : n ≤ 0
 ·simp only [if_pos h]; exact ⟨_, Ev.now _⟩
 ·simp only [if_neg h]; exact na 20 n _ h0 h1 (by omega) (by decide)
theorem dt (n : Int) (h0 : 0 ≤ n) (h1 : n ≤ 4611686018427387904) : Ev (fun k => ax.f k n) (MT n) := by
 have h := ne n h0 (by omega); unfold MT
 rw [dif_pos h]; exact Classical.choose_spec h
theorem mY (l : List S86) (hn : l.length < 1152921504606846976) : ∀ (d i : Nat) (a : Int), i + d = l.length → 0 ≤ a → a + 2 * d < 4611686018427387904 → l.drop i = dG a d →
  Ev (fun k => ar.l0 k l a (i : Int)) (a + 2 * d) := by
 intro d; induction d with
 | zero =>
  intro i a hi ha hb hd; refine Ev.step (fun k => ar.l0.eq_2 _ _ _ _) ?_; simp only [if_neg (show ¬ ((i : Int) < (l.length : Int)) by omega)]; simpa using Ev.now a
 | succ d ih =>
  intro i a hi ha hb hd; refine Ev.step (fun k => ar.l0.eq_2 _ _ _ _) ?_; rw [cZ l i (by omega)] at hd; simp only [dG, List.cons.injEq] at hd; simp only [if_pos (show ((i : Int) < (l.length : Int)) by omega), if_pos (show 0 ≤ (i : Int) by omega), b9 i (by omega), eE l i (by omega), hd.1, bx (x := a + 1) (by omega) (by omega), bx (x := a + 1 + 1) (by omega) (by omega)]; refine Ev.bind (dt a ha (by omega)) ?_; simp only [if_true]; refine Ev.bind (dt (a + 1) (by omega) (by omega)) ?_; simp only [if_true]; have h := ih (i + 1) (a + 2) (by omega) (by omega) (by omega) hd.2; have e : a + 2 + 2 * (d : Int) = a + 2 * ((d + 1 : Nat) : Int) := by omega
  have e3 : a + 1 + 1 = a + 2 := by omega
  rw [← e, e3]; exact h
theorem mE (n : Nat) (hn : n < 1125899906842624) : Ev (fun k => ar.f k (dG 1 n) 1) (1 + 2 * (n : Int)) := by
 have := mY (dG 1 n) (by rw [gB]; omega) n 0 1 (by rw [gB]; omega) (by omega) (by omega) rfl; simpa [ar.f] using this
theorem kk (key : ByteArray) (n : Nat) (hn : n < 1125899906842624) : Ev (fun k => cH.f k key (dG 1 n) 1) (1 + 2 * (n : Int)) := by
 simp only [cH.f]; refine Ev.bind (mE n hn) ?_; simp only [if_neg (show ¬ (1 + 2 * (n : Int) < 0) by omega)]; exact Ev.now _
theorem bJ (i : Nat) : ((i : Int)).toNat = i := by simp
theorem mA : ∀ (d i : Nat) (l : List S86) (a : Int), i + d = l.length → l.length < 1152921504606846976 → 0 ≤ a → a + 2 * d < 4611686018427387904 →
  Ev (fun k => bA.l0 k l a (i : Int)) (a + 2 * d, l.take i ++ dG a d) := by
 intro d; induction d with
 | zero =>
  intro i l a hi hn ha hb; refine Ev.step (fun k => bA.l0.eq_2 _ _ _ _) ?_; simp only [if_neg (show ¬ ((i : Int) < (l.length : Int)) by omega)]; have : (a + 2 * ((0 : Nat) : Int), l.take i ++ dG a 0) = (a, l) := by simp [dG, List.take_of_length_le (show l.length ≤ i by omega)]
  rw [this]; exact Ev.now _
 | succ d ih =>
  intro i l a hi hn ha hb; refine Ev.step (fun k => bA.l0.eq_2 _ _ _ _) ?_; simp only [if_pos (show ((i : Int) < (l.length : Int)) by omega), if_pos (show 0 ≤ (i : Int) by omega), b9 i (by omega), bJ, bx (x := a + 1) (by omega) (by omega), bx (x := a + 1 + 1) (by omega) (by omega)]; refine Ev.bind (dt a ha (by omega)) ?_; simp only [Option.bind_some]; refine Ev.bind (dt (a + 1) (by omega) (by omega)) ?_; rw [eE (l.set i _) i (by simp; omega), List.getElem_set_self, List.set_set]; have h := ih (i + 1) (l.set i ⟨MT a, MT (a + 1)⟩) (a + 2) (by simp; omega) (by simp; omega) (by omega) (by omega); rw [List.take_add_one, List.take_set_of_le (Nat.le_refl _), List.getElem?_set_self (by omega)] at h; have e2 : (a + 2 + 2 * (d : Int), l.take i ++ (some (⟨MT a, MT (a + 1)⟩ : S86)).toList ++ dG (a + 2) d) = (a + 2 * ((d + 1 : Nat) : Int), l.take i ++ dG a (d + 1)) := by
   simp [dG]; omega
  have e3 : a + 1 + 1 = a + 2 := by omega
  rw [← e2, e3]; exact h
theorem mP (l : List S86) (hn : l.length < 1125899906842624) : Ev (fun k => bA.f k l 1) (1 + 2 * (l.length : Int), dG 1 l.length) := by
 have := mA l.length 0 l 1 (by omega) (by omega) (by omega) (by omega); simpa [bA.f] using this
theorem n3 (key : ByteArray) (l : List S86) (hn : l.length < 1125899906842624) : Ev (fun k => dq.f k key l 1) (1 + 2 * (l.length : Int), dG 1 l.length) := by
 simp only [dq.f]; exact Ev.bind (mP l hn) (Ev.now _)
def fS (f : S92) : Prop := (f.f1 = 1 ∧ 1 ≤ f.f2 ∧ f.f2 ≤ 9) ∨ (2 ≤ f.f1 ∧ f.f1 ≤ 3 ∧ f.f2 = 0)
def ls (c : Int) : Prop := 48 ≤ c ∧ c ≤ 57
instance (c : Int) : Decidable (ls c) := by unfold ls; infer_instance
def kM (c : Int) : Prop := 97 ≤ c ∧ c ≤ 122
instance (c : Int) : Decidable (kM c) := by unfold kM; infer_instance
def dB (l : List Int) (j : Nat) : Prop := (∀ (i : Nat) (h : i < l.length), j ≤ i → kM l[i] ∨ (0 < i ∧ ls l[i])) ∧ 1 ≤ l.length ∧ l.length ≤ 8
def du (l : List S92) (j : Nat) : Prop := (∀ (i : Nat) (h : i < l.length), j ≤ i → dB (ak l[i].f0) 0 ∧ fS l[i] ∧ ∀ m (hm : m < i), l[m].f0 ≠ l[i].f0) ∧ 1 ≤ l.length ∧ l.length ≤ 4
open Classical in
noncomputable def fc (l : List S92) : Bool := decide (du l 0)
def g5 (F : List S92) (R : List S46) (E : List S76) (n : Int) : Prop :=
 fc F = true ∧ R.length ≤ 8 ∧ (0 ≤ n ∧ n ≤ 999999999) ∧ Ev (fun k => b4.f k F R) E
open Classical in
noncomputable def eN (l : List Int) : Bool := decide (dB l 0)
def px (a b : ByteArray) : Prop := Op.bytesLess a.toList b.toList = true
def qz (c : Int) : Prop := 32 ≤ c ∧ c ≤ 126
open Classical in
noncomputable def ey (s : ByteArray) (m : Int) : Bool := decide ((∀ c ∈ ak s, qz c) ∧ (s.size : Int) ≤ m)
def fZ (key : ByteArray) (l : List S86) (j : Nat) : Prop := (∀ (i : Nat) (h : i < l.length), j ≤ i → eN (ak l[i].f0) = true ∧ ey l[i].f1 60 = true ∧ ∀ h0 : 0 < i, px (l[i - 1]'(by omega)).f0 l[i].f0) ∧ eN (ak key) = true ∧ l.length ≤ 4
open Classical in
noncomputable def jB (key : ByteArray) (l : List S86) : Bool := decide (fZ key l 0)
def gf (l : List ByteArray) : Prop := ∀ x ∈ l, eN (ak x) = true
def eu (c : UInt8) : Nat → List UInt8 → List UInt8 → List (List UInt8)
 | _, acc, [] => [acc]
 | 0, acc, x :: xs => [acc ++ x :: xs]
 | n + 1, acc, x :: xs => if x = c then acc :: eu c n [] xs else eu c (n + 1) (acc ++ [x]) xs
def mkT (l : List UInt8) : ByteArray := ⟨l.toArray⟩
def ec (c : UInt8) (s : ByteArray) : List ByteArray := (eu c (s.data.toList.count c) [] s.data.toList).map mkT
def kt (s : ByteArray) : Prop := gf (ec 44 s) ∧ (ec 44 s).length ≤ 4
def iu (s : ByteArray) : Int × Bool := match Lib.atoiAll s.data.toList with
 | .ok n => if -999999999 ≤ n ∧ n ≤ 999999999 ∧ Lib.itoa n = s.data.toList then (n, true) else (0, false)
 | _ => (0, false)
def jI (kind : Int) (s : ByteArray) : Prop := kind = 1 ∨ (kind = 2 ∧ (iu s).2 = true) ∨ (kind = 3 ∧ kt s)
def em (n : ByteArray) : List S92 → ByteArray × Int × Int
 | [] => (⟨#[]⟩, 0, 0)
 | f :: F => if f.f0 = n then (f.f0, f.f1, f.f2) else em n F
def er (F : List S92) (n : ByteArray) : Int := (em n F).2.1
def jn (F : List S92) (key : ByteArray) (l : List S86) : Prop := fc F = true ∧ jB key l = true ∧ ∀ c ∈ l, jI (er F c.f0) c.f1
open Classical in
noncomputable def gF (F : List S92) (key : ByteArray) (l : List S86) : Bool := decide (jn F key l)
def m5 (F : List S92) (R : List S46) (n : Int) (i : Nat) (h : i < R.length) : Prop :=
 gF F R[i].f1.f0 R[i].f1.f1 = true ∧ ck R[i].f1.f0 0 R = (i : Int) ∧ (0 ≤ R[i].f0 ∧ R[i].f0 ≤ wrap64 (n - 1)) ∧ ∀ h0 : 0 < i, (R[i - 1]'(by omega)).f0 < R[i].f0
def dp (F : List S92) (R : List S46) (n : Int) (i : Nat) : Prop := ∀ (j : Nat) (h : j < R.length), i ≤ j → m5 F R n j h
open Classical in
noncomputable def ie (F : List S92) (R : List S46) (E : List S76) (n : Int) : Bool := decide (dp F R n 0 ∧ g5 F R E n)
noncomputable def kc (F : List S92) (R : List S46) (E : List S76) (n : Int) (key : ByteArray) : ByteArray × List S86 × Bool :=
 if ie F R E n = true then if ck key 0 R < 0 then ((⟨#[]⟩ : ByteArray), [], false) else ((ab R (ck key 0 R)).f1.f0, (ab R (ck key 0 R)).f1.f1, true) else ((⟨#[]⟩ : ByteArray), [], false)
structure fI (F : List S92) (R : List S46) (E : List S76) : Prop where
 f : F.length ≤ 1048576
 fs : ∀ x ∈ F, x.f0.size ≤ 1048576
 r : R.length ≤ 1048576
 rs : ∀ x ∈ R, x.f1.f0.size ≤ 1048576 ∧ x.f1.f1.length ≤ 1048576 ∧ ∀ c ∈ x.f1.f1, c.f0.size ≤ 1048576 ∧ c.f1.size ≤ 1048576
 e : E.length ≤ 1048576
 es : ∀ x ∈ E, x.f2.length ≤ 1048576 ∧ ∀ p ∈ x.f2, p.f1.length ≤ 1048576
theorem gS (l : List S46) (j : Nat) (h : j < l.length) : ab l (j : Int) = l[j] := by
 unfold ab; simp [List.getD_eq_getElem?_getD, List.getElem?_eq_getElem h]
theorem f7 (key : ByteArray) : ∀ (l : List S46) (i : Nat), ck key i l < (i + l.length : Nat)
 | [], i => by simp only [ck]; omega
 | x :: l, i => by
  rw [ck, List.length_cons]; split
  ·omega
  ·have := f7 key l (i + 1); omega
theorem oD {F : List S92} {R : List S46} {E : List S76} (hz : fI F R E) (key : ByteArray) (h : 0 ≤ ck key 0 R) : (ab R (ck key 0 R)).f1.f1.length ≤ 1048576 := by
 have hl := f7 key R 0; obtain ⟨i, hi⟩ := Int.eq_ofNat_of_zero_le h; rw [hi] at hl ⊢; have hil : i < R.length := by omega
 rw [gS R i hil]; exact (hz.rs _ (List.getElem_mem hil)).2.1
theorem qe {F : List S92} {R : List S46} {E : List S76} (hz : fI F R E) (n : Int) (key : ByteArray) : (kc F R E n key).2.1.length ≤ 1048576 := by
 unfold kc
 split
 ·split
  ·simp
  ·exact oD hz key (by omega)
 ·simp
theorem bi {g : Nat → Option Bool} {p : Prop} {ip : Decidable p} (h : ¬ p) (k : Ev g false) : Ev g (@decide p ip) := by
 rw [decide_eq_false h]; exact k
theorem lX {α : Type} {g : Nat → Option α} {a b : α} (h : Ev g a) (h' : Ev g b) : a = b := by
 obtain ⟨K, h⟩ := h; obtain ⟨K', h'⟩ := h'; exact Option.some.inj ((h (max K K') (by omega)).symm.trans (h' (max K K') (by omega)))
theorem wpred (j : Nat) (h : j < 9223372036854775807) : wrap64 (((j + 1 : Nat) : Int) - 1) = (j : Int) := by rw [bx (by omega) (by omega)]; omega
theorem cR {g : Nat → Option Bool} {p q : Prop} {ip : Decidable p} {iq : Decidable q} (h : p ↔ q) (k : Ev g (@decide p ip)) : Ev g (@decide q iq) := by
 have e : @decide p ip = @decide q iq := decide_eq_decide.2 h; rw [← e]; exact k
theorem iF {key : ByteArray} {l : List S86} {j : Nat} (hj : l.length ≤ j) : fZ key l j ↔ eN (ak key) = true ∧ l.length ≤ 4 := ⟨fun h => h.2, fun h => ⟨fun i hi hji => by omega, h⟩⟩
theorem g9 {key : ByteArray} {l : List S86} {j : Nat} (hj : j < l.length) : fZ key l j ↔ (eN (ak l[j].f0) = true ∧ ey l[j].f1 60 = true ∧ ∀ h0 : 0 < j, px (l[j - 1]'(by omega)).f0 l[j].f0) ∧ fZ key l (j + 1) := by
 constructor
 ·rintro ⟨h, h2⟩; exact ⟨h j hj (Nat.le_refl _), fun i hi hji => h i hi (by omega), h2⟩
 ·rintro ⟨h, h1, h2⟩; refine ⟨fun i hi hji => ?_, h2⟩; rcases Nat.lt_or_ge j i with hlt | hge
  ·exact h1 i hi hlt
  ·obtain rfl : i = j := by omega
   exact h
theorem iR {l : List Int} {j : Nat} (hj : l.length ≤ j) : dB l j ↔ 1 ≤ l.length ∧ l.length ≤ 8 := ⟨fun h => h.2, fun h => ⟨fun i hi hji => by omega, h⟩⟩
theorem hY {l : List Int} {j : Nat} (hj : j < l.length) : dB l j ↔ (kM l[j] ∨ (0 < j ∧ ls l[j])) ∧ dB l (j + 1) := by
 constructor
 ·rintro ⟨h, h2⟩; exact ⟨h j hj (Nat.le_refl _), fun i hi hji => h i hi (by omega), h2⟩
 ·rintro ⟨h, h1, h2⟩; refine ⟨fun i hi hji => ?_, h2⟩; rcases Nat.lt_or_ge j i with hlt | hge
  ·exact h1 i hi hlt
  ·obtain rfl : i = j := by omega
   exact h
theorem jl (l : List Int) (j : Nat) (h : j < l.length) : rd l (j : Int) = l[j] := by
 unfold rd; simp [List.getD_eq_getElem?_getD, List.getElem?_eq_getElem h]
theorem gJ (s : ByteArray) (j : Nat) (h : j < (ak s).length) : bt s (j : Int) = (ak s)[j] := by
 rw [← lb, jl _ _ h]
theorem gq {α : Type} {g : Nat → Option α} {r : α} (h : ∀ k, g k = some r) : Ev g r := ⟨0, fun k _ => h k⟩
theorem hJ (a : Int) : dE.f a = some (decide (ls a)) := by
 unfold dE.f ls
 by_cases h : a ≥ 48
 ·rw [if_pos h]; congr 1; exact decide_eq_decide.2 (by omega)
 ·rw [if_neg h]; congr 1; symm; exact decide_eq_false (by omega)
theorem g6 (a : Int) : df.f a = some (decide (kM a)) := by
 unfold df.f kM
 by_cases h : a ≥ 97
 ·rw [if_pos h]; congr 1; exact decide_eq_decide.2 (by omega)
 ·rw [if_neg h]; congr 1; symm; exact decide_eq_false (by omega)
theorem dv (a b c : Int) : aU.f a b c = some (decide (b ≤ a ∧ a ≤ c)) := by
 unfold aU.f
 by_cases h : a ≥ b
 ·rw [if_pos h]; congr 1; exact decide_eq_decide.2 ⟨fun h2 => ⟨h, h2⟩, fun h2 => h2.2⟩
 ·rw [if_neg h]; congr 1; symm; exact decide_eq_false (fun h2 => h h2.1)
open Classical in
theorem kN (s : ByteArray) (hn : s.size < 4611686018427387904) : ∀ (d i : Nat), i + d = s.size → Ev (fun k => av.l0 k s (s.size : Int) (i : Int)) (decide (dB (ak s) i)) := by
 have hb := bT s; intro d; induction d with
 | zero =>
  intro i hi; refine Ev.step (fun k => av.l0.eq_2 _ _ _ _) ?_; simp only [if_neg (show ¬ ((i : Int) < (s.size : Int)) by omega), dv, Option.bind_some]; refine cN (iR (by omega)).symm ?_; refine gq fun _ => ?_
  congr 1; exact decide_eq_decide.2 (by omega)
 | succ d ih =>
  intro i hi; have hs := hY (l := ak s) (j := i) (by omega); refine Ev.step (fun k => av.l0.eq_2 _ _ _ _) ?_; simp only [if_pos (show ((i : Int) < (s.size : Int)) by omega), if_pos (show 0 ≤ (i : Int) by omega), b9 i (by omega), gJ s i (by omega), g6, hJ, Option.bind_some, decide_eq_true_eq]; by_cases h1 : kM (ak s)[i]
  ·simp only [if_pos h1]; exact cN (hs.trans ⟨fun h => h.2, fun h => ⟨.inl h1, h⟩⟩).symm (ih (i + 1) (by omega))
  ·simp only [if_neg h1]; by_cases h0 : (i : Int) = 0
   ·simp only [if_pos h0]; have : decide (dB (ak s) i) = false := decide_eq_false (fun h => by rcases (hs.1 h).1 with h2 | h2; exact h1 h2; omega); rw [this]; exact Ev.now _
   ·simp only [if_neg h0]; by_cases h2 : ls (ak s)[i]
    ·simp only [if_pos h2]; exact cN (hs.trans ⟨fun h => h.2, fun h => ⟨.inr ⟨by omega, h2⟩, h⟩⟩).symm (ih (i + 1) (by omega))
    ·simp only [if_neg h2]; have : decide (dB (ak s) i) = false := decide_eq_false (fun h => by rcases (hs.1 h).1 with h3 | h3; exact h1 h3; exact h2 h3.2); rw [this]; exact Ev.now _
theorem eW (s : ByteArray) (hn : s.size < 4611686018427387904) : Ev (fun k => av.f k s) (eN (ak s)) := kN s hn s.size 0 (by omega)
theorem fe (s : ByteArray) : ∀ c ∈ ak s, 0 ≤ c ∧ c ≤ 255 := by
 intro c hc; obtain ⟨b, _, rfl⟩ := List.mem_map.1 hc; have := b.toNat_lt; omega
theorem pn (s : ByteArray) (j : Nat) (h : j < (ak s).length) : wrap64 (bt s (j : Int)) = (ak s)[j] := by
 rw [gJ s j h]; have := fe s _ (List.getElem_mem h); exact bx (by omega) (by omega)
open Classical in
theorem lO (s : ByteArray) (m : Int) (hs : s.size < 4611686018427387904) : ∀ (d i : Nat), i + d = s.size → Ev (fun k => cK.l0 k s m (s.size : Int) (i : Int)) (decide ((∀ c ∈ (ak s).drop i, qz c) ∧ (s.size : Int) ≤ m)) := by
 have hlen := bT s; intro d; induction d with
 | zero =>
  intro i hi; refine Ev.step (fun k => cK.l0.eq_2 _ _ _ _ _) ?_; simp only [if_neg (show ¬ ((i : Int) < (s.size : Int)) by omega)]; refine cN ?_ (Ev.now _); rw [List.drop_eq_nil_of_le (by omega)]; exact ⟨fun h => ⟨fun c hc => by simp at hc, h⟩, fun h => h.2⟩
 | succ d ih =>
  intro i hi; refine Ev.step (fun k => cK.l0.eq_2 _ _ _ _ _) ?_; simp only [if_pos (show ((i : Int) < (s.size : Int)) by omega), if_pos (show 0 ≤ (i : Int) by omega), pn s i (by omega), dv, Option.bind_some, decide_eq_true_eq, b9 i (by omega)]; have e := List.drop_eq_getElem_cons (l := ak s) (i := i) (by omega); by_cases hw : 32 ≤ (ak s)[i] ∧ (ak s)[i] ≤ 126
  ·simp only [if_pos hw]; refine cN ?_ (ih (i + 1) (by omega)); rw [e]; constructor
   ·rintro ⟨h1, h2⟩; exact ⟨fun c hc => by rcases List.mem_cons.1 hc with h | h; exact h ▸ hw; exact h1 c h, h2⟩
   ·rintro ⟨h1, h2⟩; exact ⟨fun c hc => h1 c (List.mem_cons_of_mem _ hc), h2⟩
  ·simp only [if_neg hw]; refine cy (fun h => hw (h.1 _ ?_)) (Ev.now _); rw [e]; exact List.mem_cons_self ..
theorem lB (s : ByteArray) (m : Int) (hs : s.size < 4611686018427387904) : Ev (fun k => cK.f k s m) (ey s m) := by
 simp only [cK.f, ey]; exact lO s m hs s.size 0 (by omega)
theorem ko (s : ByteArray) (hs : s.size < 4611686018427387904) : Ev (fun k => b5.f k s) (ey s 60) := by
 simp only [b5.f]; exact Ev.bind (lB s 60 hs) (Ev.now _)
open Classical in
theorem iw (key : ByteArray) (l : List S86) (hk : key.size ≤ 1048576) (hn : l.length ≤ 1048576) (hs : ∀ x ∈ l, x.f0.size ≤ 1048576 ∧ x.f1.size ≤ 1048576) : ∀ (d i : Nat), i + d = l.length →
  Ev (fun k => bm.l0 k l (l.length : Int) (i : Int) key l) (decide (fZ key l i)) := by
 intro d; induction d with
 | zero =>
  intro i hi; refine Ev.step (fun k => bm.l0.eq_2 _ _ _ _ _ _) ?_; simp only [if_neg (show ¬ ((i : Int) < (l.length : Int)) by omega)]; refine cN (iF (by omega)).symm ?_; refine Ev.bind (eW key (by omega)) ?_; cases hnm : eN (ak key) with
  | false => simp only [if_neg (show ¬ (false = true) by decide)]; exact cy (fun h => by cases h.1) (Ev.now _)
  | true =>
   simp only [if_true]; exact cN ⟨fun h => ⟨(by first | trivial | rfl), by omega⟩, fun h => by have := h.2; omega⟩ (Ev.now _)
 | succ d ih =>
  intro i hi; have hst := g9 (key := key) (l := l) (j := i) (by omega); have hsz := hs l[i] (List.getElem_mem _); have hnext := ih (i + 1) (by omega); refine Ev.step (fun k => bm.l0.eq_2 _ _ _ _ _ _) ?_; simp only [if_pos (show ((i : Int) < (l.length : Int)) by omega), if_pos (show 0 ≤ (i : Int) by omega), eE l i (by omega), b9 i (by omega)]; refine Ev.bind (eW l[i].f0 (by omega)) ?_; cases hnm : eN (ak l[i].f0) with
  | false => simp only [if_neg (show ¬ (false = true) by decide)]; exact cy (fun h => by have := (hst.1 h).1.1; rw [hnm] at this; cases this) (Ev.now _)
  | true =>
   simp only [if_true]; refine Ev.bind (ko l[i].f1 (by omega)) ?_; cases htx : ey l[i].f1 60 with
   | false => simp only [if_neg (show ¬ (false = true) by decide)]; exact cy (fun h => by have := (hst.1 h).1.2.1; rw [htx] at this; cases this) (Ev.now _)
   | true =>
    simp only [if_true]; by_cases h0 : (i : Int) > 0
    ·have he : wrap64 ((i : Int) - 1) = ((i - 1 : Nat) : Int) := by rw [bx (by omega) (by omega)]; omega
     simp only [if_pos h0, he, if_pos (show 0 ≤ ((i - 1 : Nat) : Int) by omega), if_pos (show ((i - 1 : Nat) : Int) < (l.length : Int) by omega), eE l (i - 1) (by omega)]; by_cases hl : px (l[i - 1]'(by omega)).f0 l[i].f0
     ·have hl2 : Op.bytesLess (l[i - 1]'(by omega)).f0.toList l[i].f0.toList = true := hl; simp only [hl2, if_true]; exact cN (hst.trans ⟨fun h => h.2, fun h => ⟨⟨hnm, htx, fun _ => hl⟩, h⟩⟩).symm hnext
     ·have hl2 : Op.bytesLess (l[i - 1]'(by omega)).f0.toList l[i].f0.toList = false := Bool.eq_false_iff.2 hl; simp only [hl2, if_neg (show ¬ (false = true) by decide)]; exact cy (fun h => hl ((hst.1 h).1.2.2 (by omega))) (Ev.now _)
    ·simp only [if_neg h0]; exact cN (hst.trans ⟨fun h => h.2, fun h => ⟨⟨hnm, htx, fun h1 => by omega⟩, h⟩⟩).symm hnext
theorem ia (key : ByteArray) (l : List S86) (hk : key.size ≤ 1048576) (hn : l.length ≤ 1048576) (hs : ∀ x ∈ l, x.f0.size ≤ 1048576 ∧ x.f1.size ≤ 1048576) : Ev (fun k => bm.f k key l) (jB key l) := iw key l hk hn hs l.length 0 (by omega)
def n8 (F : List S92) (l : List S86) : Prop := ∀ c ∈ l, jI (er F c.f0) c.f1
theorem eA {g : Nat → Option Bool} {p : Prop} {ip : Decidable p} (h : p) (k : Ev g true) : Ev g (@decide p ip) := by
 rw [decide_eq_true h]; exact k
theorem eo (l : List S92) (j : Nat) (h : j < l.length) : ao l (j : Int) = l[j] := by
 unfold ao; simp [List.getD_eq_getElem?_getD, List.getElem?_eq_getElem h]
theorem jM (n : ByteArray) (F : List S92) (hn : F.length < 4611686018427387904) : ∀ (d i : Nat), i + d = F.length → Ev (fun k => bg.l0 k n F (F.length : Int) (i : Int)) (em n (F.drop i)) := by
 intro d; induction d with
 | zero =>
  intro i hi; refine Ev.step (fun k => bg.l0.eq_2 _ _ _ _ _) ?_; simp only [if_neg (show ¬ ((i : Int) < (F.length : Int)) by omega)]; rw [List.drop_eq_nil_of_le (by omega)]; exact Ev.now _
 | succ d ih =>
  intro i hi; have hil : i < F.length := by omega
  refine Ev.step (fun k => bg.l0.eq_2 _ _ _ _ _) ?_; rw [cZ F i hil]; simp only [if_pos (show ((i : Int) < (F.length : Int)) by omega), if_pos (show 0 ≤ (i : Int) by omega), eo F i hil, toList_inj, b9 i (by omega), em]; by_cases h : F[i].f0 = n
  ·simp only [if_pos h]; exact Ev.now _
  ·simp only [if_neg h]; exact ih (i + 1) (by omega)
theorem gi (n : ByteArray) (F : List S92) (hn : F.length < 4611686018427387904) : Ev (fun k => bg.f k F n) (em n F) := by
 have := jM n F hn F.length 0 (by omega); simpa [bg.f] using this
theorem iQ {α : Type} (d : α) (l : List α) (j : Nat) (h : j < l.length) : fg d l (j : Int) = l[j] := by
 unfold fg; simp [List.getD_eq_getElem?_getD, List.getElem?_eq_getElem h]
theorem eO {x : ByteArray} {l : List ByteArray} : gf (x :: l) ↔ eN (ak x) = true ∧ gf l := by
 unfold gf
 constructor
 ·intro h; exact ⟨h x (by simp), fun y hy => h y (List.mem_cons_of_mem _ hy)⟩
 ·rintro ⟨h1, h2⟩ y hy; rcases List.mem_cons.1 hy with rfl | hy
  ·exact h1
  ·exact h2 y hy
open Classical in
theorem kn (L : List ByteArray) (hL : L.length ≤ 1048577) (hx : ∀ x ∈ L, x.size ≤ 1048576) : ∀ (d i : Nat), i + d = L.length → Ev (fun k => cd.l0 k L L (L.length : Int) (i : Int)) (decide (gf (L.drop i) ∧ L.length ≤ 4)) := by
 intro d; induction d with
 | zero =>
  intro i hi; refine Ev.step (fun k => cd.l0.eq_2 _ _ _ _ _) ?_; simp only [if_neg (show ¬ ((i : Int) < (L.length : Int)) by omega)]; rw [List.drop_eq_nil_of_le (by omega)]; refine cR ?_ (Ev.now _); exact ⟨fun h => ⟨fun x hx => by simp at hx, by omega⟩, fun h => by have := h.2; omega⟩
 | succ d ih =>
  intro i hi; have hil : i < L.length := by omega
  have hxi := hx L[i] (List.getElem_mem _); refine Ev.step (fun k => cd.l0.eq_2 _ _ _ _ _) ?_; simp only [if_pos (show ((i : Int) < (L.length : Int)) by omega), if_pos (show 0 ≤ (i : Int) by omega), iQ _ L i hil, b9 i (by omega)]; refine Ev.bind (eW L[i] (by omega)) ?_; rw [cZ L i hil]; cases hnm : eN (ak L[i]) with
  | false => simp only [if_neg (show ¬ (false = true) by decide)]; exact bi (fun h => by have := (eO.1 h.1).1; rw [hnm] at this; cases this) (Ev.now _)
  | true =>
   simp only [if_true]; exact cR ⟨fun h => ⟨eO.2 ⟨hnm, h.1⟩, h.2⟩, fun h => ⟨(eO.1 h.1).2, h.2⟩⟩ (ih (i + 1) (by omega))
theorem m8 (s : ByteArray) : mkT s.data.toList = s := by cases s; rfl
theorem gR (c : UInt8) (acc l : List UInt8) : eu c 0 acc l = [acc ++ l] := by cases l <;> simp [eu]
theorem iG (c : UInt8) : ∀ (x : List UInt8) (n : Nat) (acc r : List UInt8), c ∉ x → eu c n acc (x ++ r) = eu c n (acc ++ x) r
 | [], n, acc, r, _ => by simp
 | a :: x, 0, acc, r, _ => by rw [gR, gR]; simp
 | a :: x, n + 1, acc, r, h => by
  have h1 : a ≠ c := fun e => h (by simp [e])
  rw [List.cons_append, eu, if_neg h1, iG c x (n + 1) _ r (fun e => h (List.mem_cons_of_mem _ e))]; simp
theorem iy (c : UInt8) (r : List UInt8) : ∀ (x : List UInt8), c ∉ x → Lib.indexByte (x ++ c :: r) c = (x.length : Int)
 | [], _ => by simp [Lib.indexByte]
 | a :: x, h => by
  have ha : a ≠ c := fun e => h (by simp [e])
  have := iy c r x (fun e => h (List.mem_cons_of_mem _ e)); simp [Lib.indexByte, this, ha]
theorem gY (c : UInt8) : ∀ (l : List UInt8), c ∉ l → Lib.indexByte l c = -1
 | [], _ => rfl
 | x :: l, h => by
  have hx : x ≠ c := fun e => h (by simp [e])
  have := gY c l (fun e => h (List.mem_cons_of_mem _ e)); simp [Lib.indexByte, this, hx]
theorem lW (c : UInt8) : ∀ (k : Nat) (l : List UInt8), Lib.splitK [c] 0 k l = eu c k [] l
 | 0, l => by rw [gR]; rfl
 | k + 1, l => by
  unfold Lib.splitK
  rw [Lib.index_one]; by_cases h : c ∈ l
  ·obtain ⟨x, r, rfl, hx⟩ := List.eq_append_cons_of_mem h; rw [iy c r x hx, if_neg (by simp), lW c k, iG c x (k + 1) [] _ hx, eu, if_pos rfl]; simp
  ·rw [gY c l h, if_pos (by decide)]; have := iG c l (k + 1) [] [] h; rw [List.append_nil, List.nil_append] at this; rw [this]; simp [eu]
theorem rM (c : UInt8) (s : ByteArray) (hs : s.size < 4294967281) : strings_Split.f s ⟨#[c]⟩ = some (ec c s) := by
 unfold strings_Split.f
 rw [if_pos ⟨hs, Nat.le_refl _⟩]; have e : (⟨#[c]⟩ : ByteArray).data.toList = [c] := rfl; have h1 := Lib.splitB_data ⟨#[c]⟩ 0 (Lib.countB s ⟨#[c]⟩) s; rw [e, lW] at h1; have h2 : Lib.countB s ⟨#[c]⟩ = s.data.toList.count c := by
  show Lib.count s.data.toList [c] = _
  exact Lib.count_one c _
 rw [h2] at h1 ⊢; unfold ec
 rw [← h1, List.map_map]; congr 1
 conv => lhs; rw [← List.map_id (Lib.splitB _ _ _ _)]
 exact List.map_congr_left (fun x _ => (m8 x).symm)
theorem gv (c : UInt8) : ∀ (l : List UInt8) (n : Nat) (acc : List UInt8), (eu c n acc l).length ≤ l.length + 1 ∧ (eu c n acc l).length ≤ n + 1 ∧ 1 ≤ (eu c n acc l).length
 | [], n, acc => by simp [eu]
 | x :: xs, 0, acc => by simp [eu]
 | x :: xs, n + 1, acc => by
  have h1 := gv c xs n []; have h2 := gv c xs (n + 1) (acc ++ [x]); unfold eu
  split
  ·simp only [List.length_cons]; omega
  ·simp only [List.length_cons]; omega
theorem fv (s : ByteArray) : s.data.toList.length = s.size := rfl
theorem gZ (c : UInt8) (s : ByteArray) : (ec c s).length ≤ s.size + 1 ∧ 1 ≤ (ec c s).length := by
 unfold ec
 have := gv c s.data.toList (s.data.toList.count c) []; rw [List.length_map]; rw [fv] at this; omega
theorem iT (c : UInt8) : ∀ (l : List UInt8) (n : Nat) (acc : List UInt8), ∀ p ∈ eu c n acc l, p.length ≤ acc.length + l.length
 | [], n, acc => by simp [eu]
 | x :: xs, 0, acc => by simp [eu]
 | x :: xs, n + 1, acc => by
  intro p hp; unfold eu at hp
  split at hp
  ·rcases List.mem_cons.1 hp with rfl | hp
   ·omega
   ·have := iT c xs n [] p hp; simp only [List.length_nil, List.length_cons] at this ⊢; omega
  ·have := iT c xs (n + 1) (acc ++ [x]) p hp; simp only [List.length_append, List.length_cons, List.length_nil] at this ⊢; omega
theorem ra (l : List UInt8) : (mkT l).size = l.length := by simp [mkT, ByteArray.size]
theorem jz {c : UInt8} {s p : ByteArray} (h : p ∈ ec c s) : p.size ≤ s.size := by
 obtain ⟨x, hx, rfl⟩ := List.mem_map.1 h; have := iT c _ _ _ x hx; rw [fv] at this; rw [ra]; simpa using this
open Classical in
theorem kH (s : ByteArray) (hs : s.size ≤ 1048576) : Ev (fun k => cd.f k s) (decide (kt s)) := by
 have hlen := gZ 44 s; simp only [cd.f, rM 44 s (show s.size < 4294967281 by omega), Option.bind_some]; have h := kn (ec 44 s) (by omega) (fun x hx => by have := jz hx; omega) (ec 44 s).length 0 (by omega); rw [List.drop_zero] at h; exact cR Iff.rfl h
theorem pK (s : ByteArray) (hs : s.size ≤ 140737488355328) : b6.f s = some (iu s) := by
 unfold b6.f
 rw [if_pos hs]; rfl
open Classical in
theorem lN (F : List S92) (hF : F.length ≤ 1048576) (l : List S86) (hn : l.length ≤ 1048576) (hs : ∀ x ∈ l, x.f0.size ≤ 1048576 ∧ x.f1.size ≤ 1048576) : ∀ (d i : Nat), i + d = l.length →
  Ev (fun k => aV.l0 k F l (l.length : Int) (i : Int)) (decide (n8 F (l.drop i))) := by
 intro d; induction d with
 | zero =>
  intro i hi; refine Ev.step (fun k => aV.l0.eq_2 _ _ _ _ _) ?_; simp only [if_neg (show ¬ ((i : Int) < (l.length : Int)) by omega)]; rw [List.drop_eq_nil_of_le (by omega)]; exact eA (fun c hc => by simp at hc) (Ev.now _)
 | succ d ih =>
  intro i hi; have hil : i < l.length := by omega
  have hsz := hs l[i] (List.getElem_mem _); have hnx := ih (i + 1) (by omega); have yes : jI (er F l[i].f0) l[i].f1 → Ev (fun k => aV.l0 k F l (l.length : Int) ((i + 1 : Nat) : Int)) (decide (n8 F (l[i] :: l.drop (i + 1)))) := by
   intro h; refine cR ⟨fun h2 c hc => ?_, fun h2 c hc => h2 c (List.mem_cons_of_mem _ hc)⟩ hnx; rcases List.mem_cons.1 hc with rfl | hc
   ·exact h
   ·exact h2 c hc
  have no : ¬ jI (er F l[i].f0) l[i].f1 → Ev (fun _ : Nat => some false) (decide (n8 F (l[i] :: l.drop (i + 1)))) := fun h => bi (fun h2 => h (h2 _ (List.mem_cons_self ..))) (Ev.now _)
  refine Ev.step (fun k => aV.l0.eq_2 _ _ _ _ _) ?_; rw [cZ l i hil]; simp only [if_pos (show ((i : Int) < (l.length : Int)) by omega), if_pos (show 0 ≤ (i : Int) by omega), eE l i hil, b9 i (by omega)]; refine Ev.bind (gi l[i].f0 F (by omega)) ?_; have hkd : (em l[i].f0 F).2.1 = er F l[i].f0 := rfl; rw [hkd]; by_cases h1 : er F l[i].f0 = 1
  ·simp only [if_pos h1]; exact yes (Or.inl h1)
  ·simp only [if_neg h1]; by_cases h2 : er F l[i].f0 = 2
   ·simp only [if_pos h2, pK l[i].f1 (by omega), Option.bind_some]; cases hnum : (iu l[i].f1).2 with
    | true => simp only [if_true]; exact yes (Or.inr (Or.inl ⟨h2, hnum⟩))
    | false =>
     simp only [if_neg (show ¬ (false = true) by decide)]; refine no (fun h => ?_); rcases h with h | ⟨_, h⟩ | ⟨h, _⟩
     ·exact h1 h
     ·rw [hnum] at h; cases h
     ·omega
   ·simp only [if_neg h2]; by_cases h3 : er F l[i].f0 = 3
    ·simp only [if_pos h3]; refine Ev.bind (kH l[i].f1 hsz.2) ?_; by_cases ht : kt l[i].f1
     ·rw [decide_eq_true ht]; simp only [if_true]; exact yes (Or.inr (Or.inr ⟨h3, ht⟩))
     ·rw [decide_eq_false ht]; simp only [if_neg (show ¬ (false = true) by decide)]; refine no (fun h => ?_); rcases h with h | ⟨h, _⟩ | ⟨_, h⟩
      ·exact h1 h
      ·exact h2 h
      ·exact ht h
    ·simp only [if_neg h3]; refine no (fun h => ?_); rcases h with h | ⟨h, _⟩ | ⟨h, _⟩
     ·exact h1 h
     ·exact h2 h
     ·exact h3 h
theorem gn {l : List S92} {j : Nat} (hj : l.length ≤ j) : du l j ↔ 1 ≤ l.length ∧ l.length ≤ 4 := ⟨fun h => h.2, fun h => ⟨fun i hi hji => by omega, h⟩⟩
theorem gl {l : List S92} {j : Nat} (hj : j < l.length) : du l j ↔ (dB (ak l[j].f0) 0 ∧ fS l[j] ∧ ∀ m (hm : m < j), l[m].f0 ≠ l[j].f0) ∧ du l (j + 1) := by
 constructor
 ·rintro ⟨h, h2⟩; exact ⟨h j hj (Nat.le_refl _), fun i hi hji => h i hi (by omega), h2⟩
 ·rintro ⟨h, h1, h2⟩; refine ⟨fun i hi hji => ?_, h2⟩; rcases Nat.lt_or_ge j i with hlt | hge
  ·exact h1 i hi hlt
  ·obtain rfl : i = j := by omega
   exact h
open Classical in
theorem fX {l : List Int} : eN l = true ↔ dB l 0 := by unfold eN; exact decide_eq_true_iff
theorem dX {α : Type} {l : List α} {j : Nat} {n : α} (h : j < l.length) : n ∈ l.drop j ↔ n = l[j] ∨ n ∈ l.drop (j + 1) := by
 rw [List.drop_eq_getElem_cons h, List.mem_cons]
theorem k4 (l : List ByteArray) (j : Nat) (h : j < l.length) : fg ByteArray.empty l (j : Int) = l[j] := iQ _ l j h
open Classical in
theorem ff (l : List ByteArray) (n : ByteArray) (hn : l.length < 4611686018427387904) : ∀ (d i : Nat), i + d = l.length → ∃ r : Int, Ev (fun k => az.l0 k l n (l.length : Int) (i : Int)) r ∧ decide (r ≥ 0) = decide (n ∈ l.drop i) := by
 intro d; induction d with
 | zero =>
  intro i hi; refine ⟨-1, Ev.step (fun k => az.l0.eq_2 _ _ _ _ _) ?_, ?_⟩
  ·simp only [if_neg (show ¬ ((i : Int) < (l.length : Int)) by omega)]; exact Ev.now _
  ·rw [List.drop_of_length_le (by omega)]; simp
 | succ d ih =>
  intro i hi; have hs := dX (l := l) (n := n) (show i < l.length by omega); by_cases h : n = l[i]
  ·refine ⟨(i : Int), Ev.step (fun k => az.l0.eq_2 _ _ _ _ _) ?_, ?_⟩
   ·simp only [if_pos (show ((i : Int) < (l.length : Int)) by omega), if_pos (show 0 ≤ (i : Int) by omega), k4 l i (by omega), toList_inj, if_pos h]; exact Ev.now _
   ·rw [decide_eq_true (hs.2 (.inl h))]; simp
  ·obtain ⟨r, h1, h2⟩ := ih (i + 1) (by omega); refine ⟨r, Ev.step (fun k => az.l0.eq_2 _ _ _ _ _) ?_, ?_⟩
   ·simp only [if_pos (show ((i : Int) < (l.length : Int)) by omega), if_pos (show 0 ≤ (i : Int) by omega), k4 l i (by omega), toList_inj, if_neg h, b9 i (by omega)]; exact h1
   ·rw [h2]; exact decide_eq_decide.2 (hs.trans ⟨fun h1 => h1.resolve_left h, .inr⟩).symm
open Classical in
theorem da (l : List ByteArray) (n : ByteArray) (hn : l.length < 4611686018427387904) : Ev (fun k => am.f k l n) (decide (n ∈ l)) := by
 obtain ⟨r, h1, h2⟩ := ff l n hn l.length 0 (by omega); simp only [am.f]; refine Ev.bind (a := r) h1 ?_; rw [h2]; exact Ev.now _
open Classical in
theorem iU (l : List S92) (hn : l.length ≤ 1048577) (hs : ∀ x ∈ l, x.f0.size ≤ 1048576) : ∀ (d i : Nat), i + d = l.length →
  Ev (fun k => aG.l0 k l ((l.take i).map (fun x => x.f0)) l (l.length : Int) (i : Int)) (decide (du l i)) := by
 intro d; induction d with
 | zero =>
  intro i hi; refine Ev.step (fun k => aG.l0.eq_2 _ _ _ _ _ _) ?_; simp only [if_neg (show ¬ ((i : Int) < (l.length : Int)) by omega), dv, Option.bind_some]; refine cN (gn (by omega)).symm ?_; refine gq fun _ => ?_
  congr 1; exact decide_eq_decide.2 (by omega)
 | succ d ih =>
  intro i hi; have hst := gl (l := l) (j := i) (by omega); have hsz := hs l[i] (List.getElem_mem _); have hlen : ((l.take i).map (fun x => x.f0)).length = i := by rw [List.length_map, List.length_take]; omega
  have hmem : l[i].f0 ∈ (l.take i).map (fun x => x.f0) ↔ ∃ m, ∃ hm : m < i, l[m].f0 = l[i].f0 := by
   rw [List.mem_map]; constructor
   ·rintro ⟨x, hx, he⟩; obtain ⟨m, hm, rfl⟩ := List.mem_iff_getElem.1 hx; rw [List.length_take] at hm; exact ⟨m, by omega, by rw [← he, List.getElem_take]⟩
   ·rintro ⟨m, hm, he⟩; exact ⟨l[m], List.mem_iff_getElem.2 ⟨m, by rw [List.length_take]; omega, by rw [List.getElem_take]⟩, he⟩
  have hnx : (l.take (i + 1)).map (fun x => x.f0) = (l.take i).map (fun x => x.f0) ++ [l[i].f0] := by
   rw [List.take_add_one, List.getElem?_eq_getElem (by omega), List.map_append]; rfl
  refine Ev.step (fun k => aG.l0.eq_2 _ _ _ _ _ _) ?_; simp only [if_pos (show ((i : Int) < (l.length : Int)) by omega), if_pos (show 0 ≤ (i : Int) by omega), eo l i (by omega), dv, Option.bind_some]; have hj1 : ∀ (t : Bool), ((t = true ∧ 1 ≤ l[i].f1 ∧ l[i].f1 ≤ 3) ↔ fS l[i]) → Ev (fun k => aG.j1 k l ((l.take i).map (fun x => x.f0)) t l (l.length : Int) (i : Int) l[i].f0 l[i].f1 l[i].f2) (decide (du l i)) := by
   intro t ht; refine Ev.step (fun k => aG.j1.eq_2 _ _ _ _ _ _ _ _ _ _) ?_; refine Ev.bind (eW l[i].f0 (by omega)) ?_; cases hnm : eN (ak l[i].f0) with
   | false =>
    simp only [if_neg (show ¬ (false = true) by decide)]; refine cy (fun h => ?_) (Ev.now _); have := fX.2 (hst.1 h).1.1; rw [hnm] at this; cases this
   | true =>
    simp only [if_true]; refine Ev.bind (da _ _ (by rw [hlen]; omega)) ?_; simp only [decide_eq_true_eq, dv, Option.bind_some]; by_cases hc : l[i].f0 ∈ (l.take i).map (fun x => x.f0)
    ·simp only [if_pos hc]; obtain ⟨m, hm, he⟩ := hmem.1 hc; exact cy (fun h => (hst.1 h).1.2.2 m hm he) (Ev.now _)
    ·simp only [if_neg hc]; by_cases hp : fS l[i]
     ·obtain ⟨h1, h2⟩ := ht.2 hp; simp only [if_pos h2, h1, if_true, hlen, if_pos (show i < 8796093022208 by omega), b9 i (by omega)]; have hnext := ih (i + 1) (by omega); rw [hnx] at hnext; exact cN (hst.trans ⟨fun h => h.2, fun h => ⟨⟨fX.1 hnm, hp, fun m hm he => hc (hmem.2 ⟨m, hm, he⟩)⟩, h⟩⟩).symm hnext
     ·have hf : Ev (fun _ => some false) (decide (du l i)) := cy (fun h => hp (hst.1 h).1.2.1) (Ev.now _); by_cases h2 : 1 ≤ l[i].f1 ∧ l[i].f1 ≤ 3
      ·have h1 : t = false := by
        cases t
        ·rfl
        ·exact absurd (ht.1 ⟨rfl, h2⟩) hp
       simp only [if_pos h2, h1, if_neg (show ¬ (false = true) by decide)]; exact hf
      ·simp only [if_neg h2]; exact hf
  by_cases h1 : l[i].f1 = 1
  ·simp only [if_pos h1]; refine hj1 _ ?_; unfold fS
   rw [decide_eq_true_eq]; constructor
   ·intro h; exact .inl ⟨h1, h.1⟩
   ·intro h; rcases h with h | h
    ·exact ⟨h.2, by omega, by omega⟩
    ·omega
  ·simp only [if_neg h1]; refine hj1 _ ?_; unfold fS
   rw [beq_iff_eq]; constructor
   ·intro h; exact .inr ⟨by omega, h.2.2, h.1⟩
   ·intro h; rcases h with h | h
    ·exact absurd h.1 h1
    ·exact ⟨h.2.2, by omega, h.2.1⟩
theorem fV (l : List S92) (hn : l.length ≤ 1048577) (hs : ∀ x ∈ l, x.f0.size ≤ 1048576) : Ev (fun k => aG.f k l) (fc l) := iU l hn hs l.length 0 (by omega)
open Classical in
theorem ll (F : List S92) (hF : F.length ≤ 1048576) (hFs : ∀ x ∈ F, x.f0.size ≤ 1048576) (key : ByteArray) (l : List S86) (hk : key.size ≤ 1048576) (hn : l.length ≤ 1048576) (hs : ∀ x ∈ l, x.f0.size ≤ 1048576 ∧ x.f1.size ≤ 1048576) : Ev (fun k => aV.f k F key l) (gF F key l) := by
 simp only [aV.f, gF]; have stop : ¬ jn F key l → Ev (fun k => aV.j0 k F true key l) (decide (jn F key l)) := by
  intro h; refine Ev.step (fun k => aV.j0.eq_2 _ _ _ _ _) ?_; simp only [if_true]; exact bi h (Ev.now _)
 refine Ev.bind (fV F (by omega) hFs) ?_; cases hf : fc F with
 | false => simp only [if_neg (show ¬ (false = true) by decide)]; exact stop (fun h => by have := h.1; rw [hf] at this; cases this)
 | true =>
  simp only [if_true]; refine Ev.bind (ia key l hk hn hs) ?_; cases hm : jB key l with
  | false => exact stop (fun h => by have := h.2.1; rw [hm] at this; cases this)
  | true =>
   simp only [Bool.not_true]; refine Ev.step (fun k => aV.j0.eq_2 _ _ _ _ _) ?_; simp only [if_neg (show ¬ (false = true) by decide)]; have h := lN F hF l hn hs l.length 0 (by omega); rw [List.drop_zero] at h; refine cR ?_ h; unfold jn
   exact ⟨fun h => ⟨hf, hm, h⟩, fun h => h.2.2⟩
theorem jG (l : List S90) (j : Nat) (h : j < l.length) : eG l (j : Int) = l[j] := by
 unfold eG; simp [List.getD_eq_getElem?_getD, List.getElem?_eq_getElem h]
theorem ix (l : List Int) (h : ∀ c ∈ l, 0 ≤ c ∧ c ≤ 255) : ak (strOfNums l) = l := by
 unfold ak
 rw [strOfNums_data, List.map_map]; conv => rhs; rw [← List.map_id l]
 apply List.map_congr_left
 intro c hc; have := h c hc; simp only [Function.comp, id]; rw [UInt8.toNat_ofNat']; omega
theorem nO (c : Int) (h : 0 ≤ c ∧ c ≤ 255) : 0 ≤ dx c ∧ dx c ≤ 255 := by
 unfold dx; split <;> omega
def eF (s : ByteArray) : ByteArray := strOfNums ((ak s).map dx)
theorem lP (s : ByteArray) : ak (eF s) = (ak s).map dx := by
 unfold eF
 apply ix
 intro c hc; obtain ⟨b, hb, rfl⟩ := List.mem_map.1 hc; exact nO b (fe s b hb)
theorem kA (s : ByteArray) : (eF s).size = s.size := by
 rw [← bT, lP, List.length_map, bT]
theorem mJ (s : ByteArray) (hn : s.size < 70368744177664) : e6.f s = some (eF s) := by
 unfold e6.f
 rw [if_pos (by omega)]; rfl
open Classical in
noncomputable def fk (w : ByteArray) : ByteArray := if w ∈ cG then (⟨#[]⟩ : ByteArray) else w
open Classical in
theorem mN (x : ByteArray) (hx : x.size ≤ 100) (b : Bool) (hb : b = true → 1 ≤ x.size) : Ev (fun k => b7.j0 k x (x.size : Int) b) (fk (if b = true then x.extract 0 (x.size - 1) else x)) := by
 refine Ev.step (fun k => b7.j0.eq_2 _ _ _ _) ?_; cases b with
 | false =>
  simp only [if_neg (show ¬ (false = true) by decide)]; refine Ev.bind (da cG x (by decide)) ?_; unfold fk
  by_cases h : x ∈ cG
  ·simp only [if_pos h, decide_eq_true h, if_true]; exact Ev.now _
  ·simp only [if_neg h, decide_eq_false h, if_neg (show ¬ (false = true) by decide)]; exact Ev.now _
 | true =>
  have h1 := hb rfl; simp only [if_true, bx (x := (x.size : Int) - 1) (by omega) (by omega), if_pos (show 0 ≤ (x.size : Int) - 1 by omega), if_pos (show (x.size : Int) - 1 ≤ (x.size : Int) by omega), show ((x.size : Int) - 1).toNat = x.size - 1 by omega]; refine Ev.bind (da cG _ (by decide)) ?_; unfold fk
  by_cases h : x.extract 0 (x.size - 1) ∈ cG
  ·simp only [if_pos h, decide_eq_true h, if_true]; exact Ev.now _
  ·simp only [if_neg h, decide_eq_false h, if_neg (show ¬ (false = true) by decide)]; exact Ev.now _
def gx (w : ByteArray) : ByteArray := w.extract 0 (min w.size 12)
theorem extract_size (w : ByteArray) (n : Nat) (h : n ≤ w.size) : (w.extract 0 n).size = n := by rw [ByteArray.size_extract]; omega
theorem kQ (w : ByteArray) : (gx w).size = min w.size 12 := extract_size w _ (Nat.min_le_left _ _)
def iC (w : ByteArray) : Bool := decide (w.size > 3 ∧ bt w ((w.size : Int) - 1) = 115 ∧ bt w ((w.size : Int) - 2) ≠ 115)
def noS (w : ByteArray) : ByteArray := if iC w = true then w.extract 0 (w.size - 1) else w
noncomputable def gw (s : ByteArray) : ByteArray := fk (noS (gx (eF s)))
theorem mo (s : ByteArray) (hs : s.size < 70368744177664) : Ev (fun k => b7.f k s) (gw s) := by
 simp only [b7.f]; have hz := kA s; simp only [mJ s hs, Option.bind_some]; have hmn : mn ((eF s).size : Int) 12 = ((min (eF s).size 12 : Nat) : Int) := by unfold mn; split <;> omega
 simp only [hmn, if_pos (show (0 : Int) ≤ ((min (eF s).size 12 : Nat) : Int) by omega), if_pos (show ((min (eF s).size 12 : Nat) : Int) ≤ ((eF s).size : Int) by omega), Int.toNat_natCast]; have hc : (eF s).extract 0 (min (eF s).size 12) = gx (eF s) := rfl; have hx : (gx (eF s)).size ≤ 100 := by rw [kQ]; omega
 simp only [hc]; unfold gw
 generalize gx (eF s) = x at hx; have key : ∀ b : Bool, b = iC x → Ev (fun k => b7.j0 k x (x.size : Int) b) (fk (noS x)) := by
  intro b hb; have := mN x hx b (fun h => by
   rw [hb] at h; have := (of_decide_eq_true h).1; omega)
  rw [hb] at this ⊢; exact this
 by_cases h3 : (x.size : Int) > 3
 ·simp only [if_pos h3, bx (x := (x.size : Int) - 1) (by omega) (by omega), bx (x := (x.size : Int) - 2) (by omega) (by omega), if_pos (show 0 ≤ (x.size : Int) - 1 by omega), if_pos (show (x.size : Int) - 1 < (x.size : Int) by omega), if_pos (show 0 ≤ (x.size : Int) - 2 by omega), if_pos (show (x.size : Int) - 2 < (x.size : Int) by omega)]; by_cases h4 : bt x ((x.size : Int) - 1) = 115
  ·simp only [if_pos h4]; refine key _ ?_; unfold iC
   by_cases h5 : bt x ((x.size : Int) - 2) = 115
   ·rw [decide_eq_false (fun h => h.2.2 h5)]; simp [h5]
   ·rw [decide_eq_true ⟨by omega, h4, h5⟩]; simp [h5]
  ·simp only [if_neg h4]; refine key _ ?_; unfold iC
   rw [decide_eq_false (fun h => h4 h.2.1)]
 ·simp only [if_neg h3]; refine key _ ?_; unfold iC
  rw [decide_eq_false (fun h => by have := h.1; omega)]
theorem lG (l : List S90) (hn : l.length ≤ 1048578) (hs : ∀ w ∈ l, w.f0.size < 70368744177664) : ∀ (d i : Nat) (acc : List ByteArray), i + d = l.length → acc.length ≤ i →
  Ev (fun k => cz.l0 k acc l (l.length : Int) (i : Int)) (acc ++ (l.drop i).map (fun w => gw w.f0)) := by
 intro d; induction d with
 | zero =>
  intro i acc hi ha; refine Ev.step (fun k => cz.l0.eq_2 _ _ _ _ _) ?_; simp only [if_neg (show ¬ ((i : Int) < (l.length : Int)) by omega)]; rw [List.drop_eq_nil_of_le (by omega), List.map_nil, List.append_nil]; exact Ev.now _
 | succ d ih =>
  intro i acc hi ha; refine Ev.step (fun k => cz.l0.eq_2 _ _ _ _ _) ?_; simp only [if_pos (show ((i : Int) < (l.length : Int)) by omega), if_pos (show 0 ≤ (i : Int) by omega), jG l i (by omega), b9 i (by omega)]; refine Ev.bind (mo _ (hs _ (List.getElem_mem (by omega)))) ?_; simp only [if_pos (show acc.length < 8796093022208 by omega)]; have := ih (i + 1) (acc ++ [gw l[i].f0]) (by omega) (by simp; omega); rw [cZ l i (by omega), List.map_cons]; rw [List.append_assoc] at this; exact this
def upP (c : Int) : Prop := 65 ≤ c ∧ c ≤ 90
instance (c : Int) : Decidable (upP c) := by unfold upP; infer_instance
def fU (c : Int) : Prop := upP c ∨ kM c ∨ ls c
instance (c : Int) : Decidable (fU c) := by unfold fU; infer_instance
def cC : Nat → Option Nat → List Int → List (Nat × Nat)
 | _, none, [] => []
 | p, some st, [] => [(st, p)]
 | p, none, c :: cs => if fU c then cC (p + 1) (some p) cs else cC (p + 1) none cs
 | p, some st, c :: cs => if fU c then cC (p + 1) (some st) cs else (st, p) :: cC (p + 1) none cs
def f8 (s : ByteArray) (q : Nat × Nat) : S90 := ⟨s.extract q.1 q.2, (q.1 : Int), (q.2 : Int)⟩
def eU (s : ByteArray) : List S90 := (cC 0 none (ak s)).map (f8 s)
noncomputable def fx (s : ByteArray) : List ByteArray := (eU s).map (fun w => gw w.f0)
theorem jU (s : ByteArray) (a b : Nat) : (s.extract a b).size ≤ s.size := by rw [ByteArray.size_extract]; omega
theorem hU (s : ByteArray) : ∀ w ∈ eU s, w.f0.size ≤ s.size := by
 intro w hw; obtain ⟨q, _, rfl⟩ := List.mem_map.1 hw; exact jU s _ _
theorem lr (a : Int) : dg.f a = some (decide (upP a)) := by
 unfold dg.f upP
 by_cases h : a ≥ 65
 ·rw [if_pos h]; congr 1; exact decide_eq_decide.2 (by omega)
 ·rw [if_neg h]; congr 1; symm; exact decide_eq_false (by omega)
theorem jv (c : Int) : di.f c = some (decide (fU c)) := by
 simp only [di.f, lr, g6, hJ, Option.bind_some, decide_eq_true_eq]; by_cases h1 : upP c
 ·rw [if_pos h1, decide_eq_true (show fU c from .inl h1)]
 ·rw [if_neg h1]; by_cases h2 : kM c
  ·rw [if_pos h2, decide_eq_true (show fU c from .inr (.inl h2))]
  ·rw [if_neg h2]; congr 1; exact decide_eq_decide.2 ⟨fun h => .inr (.inr h), fun h => (h.resolve_left h1).resolve_left h2⟩
theorem mM (s : ByteArray) (hn : s.size < 1099511627776) : ∀ (d : Nat),
  (∀ (i : Nat) (acc : List S90), i + d = s.size → acc.length ≤ i → Ev (fun k => bd.l0 k s acc (i : Int)) (acc ++ (cC i none ((ak s).drop i)).map (f8 s))) ∧
  (∀ (i j : Nat) (acc : List S90), i + d = s.size → j < i → acc.length ≤ i → Ev (fun k => bd.l1 k s acc (i : Int) (j : Int)) (acc ++ (cC i (some j) ((ak s).drop i)).map (f8 s))) := by
 have hb := bT s; intro d; induction d with
 | zero =>
  have h0 : ∀ (i : Nat) (acc : List S90), s.size ≤ i → Ev (fun k => bd.l0 k s acc (i : Int)) acc := by
   intro i acc hi; refine Ev.step (fun k => bd.l0.eq_2 _ _ _ _) ?_; simp only [if_neg (show ¬ ((i : Int) < (s.size : Int)) by omega)]; exact Ev.now _
  constructor
  ·intro i acc hi hacc; rw [List.drop_of_length_le (by omega)]; simpa [cC] using h0 i acc (by omega)
  ·intro i j acc hi hj hacc; rw [List.drop_of_length_le (by omega)]; refine Ev.step (fun k => bd.l1.eq_2 _ _ _ _ _) ?_; simp only [if_neg (show ¬ ((i : Int) < (s.size : Int)) by omega), if_pos (show (i : Int) > (j : Int) by omega), if_pos (show 0 ≤ (j : Int) by omega), if_pos (show (j : Int) ≤ (i : Int) by omega), if_pos (show (i : Int) ≤ (s.size : Int) by omega), if_pos (show acc.length < 4398046511104 by omega), b9 i (by omega), bJ]; exact h0 (i + 1) _ (by omega)
 | succ d ih =>
  have h1 : ∀ (i j : Nat) (acc : List S90), i + (d + 1) = s.size → j ≤ i → acc.length ≤ i → Ev (fun k => bd.l1 k s acc (i : Int) (j : Int)) (acc ++ (cC i (if j < i then some j else none) ((ak s).drop i)).map (f8 s)) := by
   intro i j acc hi hj hacc; refine Ev.step (fun k => bd.l1.eq_2 _ _ _ _ _) ?_; simp only [if_pos (show ((i : Int) < (s.size : Int)) by omega), if_pos (show 0 ≤ (i : Int) by omega), gJ s i (by omega), jv, Option.bind_some, decide_eq_true_eq, b9 i (by omega)]; rw [cZ (ak s) i (by omega)]; by_cases hw : fU (ak s)[i]
   ·simp only [if_pos hw]; have := ih.2 (i + 1) j acc (by omega) (by omega) (by omega); by_cases hji : j < i
    ·simpa only [if_pos hji, cC, if_pos hw] using this
    ·obtain rfl : j = i := by omega
     simpa only [if_neg hji, cC, if_pos hw] using this
   ·simp only [if_neg hw]; by_cases hji : j < i
    ·simp only [if_pos hji, if_pos (show (i : Int) > (j : Int) by omega), if_pos (show 0 ≤ (j : Int) by omega), if_pos (show (j : Int) ≤ (i : Int) by omega), if_pos (show (i : Int) ≤ (s.size : Int) by omega), if_pos (show acc.length < 4398046511104 by omega), bJ, cC, if_neg hw]; have := ih.1 (i + 1) (acc ++ [f8 s (j, i)]) (by omega) (by simp; omega); rw [List.append_assoc] at this; exact this
    ·simp only [if_neg hji, if_neg (show ¬ (i : Int) > (j : Int) by omega), cC, if_neg hw]; exact ih.1 (i + 1) acc (by omega) (by omega)
  constructor
  ·intro i acc hi hacc; refine Ev.step (fun k => bd.l0.eq_2 _ _ _ _) ?_; simp only [if_pos (show ((i : Int) < (s.size : Int)) by omega)]; have := h1 i i acc hi (Nat.le_refl _) hacc; simpa only [if_neg (Nat.lt_irrefl i)] using this
  ·intro i j acc hi hj hacc; have := h1 i j acc hi (by omega) hacc; simpa only [if_pos hj] using this
theorem lx (s : ByteArray) (hn : s.size < 1099511627776) : Ev (fun k => bd.f k s) (eU s) := by
 have := (mM s hn s.size).1 0 [] (by omega) (by simp); rw [List.nil_append, List.drop_zero] at this; exact this
theorem k7 : ∀ (l : List Int) (p : Nat) (o : Option Nat), (cC p o l).length ≤ l.length + (if o.isSome then 1 else 0) := by
 intro l; induction l with
 | nil => intro p o; cases o <;> simp [cC]
 | cons c cs ih =>
  intro p o; cases o with
  | none =>
   by_cases h : fU c
   ·simp only [cC, if_pos h]; have := ih (p + 1) (some p); simp at this ⊢; omega
   ·simp only [cC, if_neg h]; have := ih (p + 1) none; simp at this ⊢; omega
  | some st =>
   by_cases h : fU c
   ·simp only [cC, if_pos h]; have := ih (p + 1) (some st); simp at this ⊢; omega
   ·simp only [cC, if_neg h]; have := ih (p + 1) none; simp at this ⊢; omega
theorem fC (s : ByteArray) : (eU s).length ≤ s.size := by
 unfold eU
 rw [List.length_map]; have := k7 (ak s) 0 none; rw [bT] at this; simpa using this
theorem lS (s : ByteArray) (hs : s.size ≤ 1048578) : Ev (fun k => cz.f k s) (fx s) := by
 simp only [cz.f]; have hl := fC s; refine Ev.bind (lx s (by omega)) ?_; exact lG (eU s) (by omega) (fun w hw => by have := hU s w hw; omega) (eU s).length 0 [] (by omega) (by simp)
theorem rL (c : Int) : dx c = if upP c then c + 32 else c := by
 unfold dx
 by_cases h : 65 ≤ c ∧ c ≤ 90
 ·rw [if_pos h, if_pos (show upP c from h)]
 ·rw [if_neg h, if_neg (show ¬ upP c from h)]
theorem gh (c : Int) (h0 : 0 ≤ c) (h1 : c ≤ 255) : cF.f c = some (if upP c then c + 32 else c) := by
 unfold cF.f
 by_cases h : upP c
 ·have h' : 65 ≤ c ∧ c ≤ 90 := h; rw [if_pos h'.1, if_pos h'.2, if_pos h]; congr 1; omega
 ·have h' : ¬ (65 ≤ c ∧ c ≤ 90) := h; rw [if_neg h]; by_cases h2 : c ≥ 65
  ·rw [if_pos h2, if_neg (by omega)]
  ·rw [if_neg h2]
theorem my (s : ByteArray) (hn : s.size < 70368744177664) : ∀ (d i : Nat) (acc : List Int), i + d = s.size → acc.length ≤ i →
  Ev (fun k => dc.l0 k s acc (i : Int)) (strOfNums (acc ++ ((ak s).drop i).map dx)) := by
 have hb := bT s; have hr := fe s; intro d; induction d with
 | zero =>
  intro i acc hi hacc; refine Ev.step (fun k => dc.l0.eq_2 _ _ _ _) ?_; simp only [if_neg (show ¬ ((i : Int) < (s.size : Int)) by omega)]; rw [List.drop_of_length_le (by omega), List.map_nil, List.append_nil]; exact Ev.now _
 | succ d ih =>
  intro i acc hi hacc; have hc := hr (ak s)[i] (List.getElem_mem _); refine Ev.step (fun k => dc.l0.eq_2 _ _ _ _) ?_; simp only [if_pos (show ((i : Int) < (s.size : Int)) by omega), if_pos (show 0 ≤ (i : Int) by omega), gJ s i (by omega), gh _ hc.1 hc.2, Option.bind_some, if_pos (show acc.length < 140737488355328 by omega), b9 i (by omega), ← rL]; have := ih (i + 1) (acc ++ [dx (ak s)[i]]) (by omega) (by simp; omega); rw [cZ (ak s) i (by omega), List.map_cons]; rw [List.append_assoc, List.singleton_append] at this; exact this
theorem mW (s : ByteArray) (hn : s.size < 70368744177664) : Ev (fun k => dc.f k s) (eF s) := by
 have := my s hn s.size 0 [] (by omega) (by simp); rw [List.nil_append, List.drop_zero] at this; exact this
open Classical in
theorem kD (s : ByteArray) (l : List ByteArray) (hl : l.length < 100) : ∀ (d i : Nat), i + d = l.length → Ev (fun k => bD.l0 k s l (i : Int)) (decide (s ∈ l.drop i)) := by
 intro d; induction d with
 | zero =>
  intro i hi; refine Ev.step (fun k => bD.l0.eq_2 _ _ _ _) ?_; simp only [if_neg (show ¬ ((i : Int) < (l.length : Int)) by omega)]; refine cy (fun h => ?_) (Ev.now _); rw [List.drop_eq_nil_of_le (by omega)] at h; simp at h
 | succ d ih =>
  intro i hi; refine Ev.step (fun k => bD.l0.eq_2 _ _ _ _) ?_; have e := List.drop_eq_getElem_cons (l := l) (i := i) (by omega); simp only [if_pos (show ((i : Int) < (l.length : Int)) by omega), if_pos (show 0 ≤ (i : Int) by omega), k4 l i (by omega), b9 i (by omega), toList_inj]; by_cases h : l[i] = s
  ·simp only [if_pos h]; exact jX (by rw [e, h]; exact List.mem_cons_self ..) (Ev.now _)
  ·simp only [if_neg h]; refine cN ?_ (ih (i + 1) (by omega)); rw [e, List.mem_cons]; exact ⟨.inr, fun h2 => h2.resolve_left (fun h3 => h h3.symm)⟩
open Classical in
theorem gm (s : ByteArray) : Ev (fun k => bD.f k s) (decide (s ∈ cG)) := by
 simp only [bD.f]; exact kD s cG (by decide) 6 0 rfl
open Classical in
theorem mD (x : ByteArray) (hx : x.size ≤ 100) (b : Bool) (hb : b = true → 1 ≤ x.size) : Ev (fun k => bB.j1 k x (x.size : Int) b) (fk (if b = true then x.extract 0 (x.size - 1) else x)) := by
 refine Ev.step (fun k => bB.j1.eq_2 _ _ _ _) ?_; cases b with
 | false =>
  simp only [if_neg (show ¬ (false = true) by decide)]; refine Ev.bind (gm x) ?_; unfold fk
  by_cases h : x ∈ cG
  ·simp only [if_pos h, decide_eq_true h, if_true]; exact Ev.now _
  ·simp only [if_neg h, decide_eq_false h, if_neg (show ¬ (false = true) by decide)]; exact Ev.now _
 | true =>
  have h1 := hb rfl; simp only [if_true, bx (x := (x.size : Int) - 1) (by omega) (by omega), if_pos (show 0 ≤ (x.size : Int) - 1 by omega), if_pos (show (x.size : Int) - 1 ≤ (x.size : Int) by omega), show ((x.size : Int) - 1).toNat = x.size - 1 by omega]; refine Ev.bind (gm _) ?_; unfold fk
  by_cases h : x.extract 0 (x.size - 1) ∈ cG
  ·simp only [if_pos h, decide_eq_true h, if_true]; exact Ev.now _
  ·simp only [if_neg h, decide_eq_false h, if_neg (show ¬ (false = true) by decide)]; exact Ev.now _
theorem iM (x : ByteArray) (hx : x.size ≤ 100) : Ev (fun k => bB.j0 k x) (fk (noS x)) := by
 refine Ev.step (fun k => bB.j0.eq_2 _ _) ?_; have key : ∀ b : Bool, b = iC x → Ev (fun k => bB.j1 k x (x.size : Int) b) (fk (noS x)) := by
  intro b hb; have := mD x hx b (fun h => by
   rw [hb] at h; have := (of_decide_eq_true h).1; omega)
  rw [hb] at this ⊢; exact this
 by_cases h3 : (x.size : Int) > 3
 ·simp only [if_pos h3, bx (x := (x.size : Int) - 1) (by omega) (by omega), bx (x := (x.size : Int) - 2) (by omega) (by omega), if_pos (show 0 ≤ (x.size : Int) - 1 by omega), if_pos (show (x.size : Int) - 1 < (x.size : Int) by omega), if_pos (show 0 ≤ (x.size : Int) - 2 by omega), if_pos (show (x.size : Int) - 2 < (x.size : Int) by omega)]; by_cases h4 : bt x ((x.size : Int) - 1) = 115
  ·simp only [if_pos h4]; refine key _ ?_; unfold iC
   by_cases h5 : bt x ((x.size : Int) - 2) = 115
   ·rw [decide_eq_false (fun h => h.2.2 h5)]; simp [h5]
   ·rw [decide_eq_true ⟨by omega, h4, h5⟩]; simp [h5]
  ·simp only [if_neg h4]; refine key _ ?_; unfold iC
   rw [decide_eq_false (fun h => h4 h.2.1)]
 ·simp only [if_neg h3]; refine key _ ?_; unfold iC
  rw [decide_eq_false (fun h => by have := h.1; omega)]
theorem oI (w : ByteArray) (h : 12 < w.size) : gx w = w.extract 0 12 := by unfold gx; rw [Nat.min_eq_right (by omega)]
theorem mH (w : ByteArray) : w.extract 0 w.size = w := by
 apply ByteArray.ext
 rw [ByteArray.data_extract]; exact Array.extract_size
theorem nL (w : ByteArray) (h : w.size ≤ 12) : gx w = w := by unfold gx; rw [Nat.min_eq_left h]; exact mH w
theorem mv (s : ByteArray) (hs : s.size < 70368744177664) : Ev (fun k => bB.f k s) (gw s) := by
 simp only [bB.f]; have hz := kA s; refine Ev.bind (mW s hs) ?_; unfold gw
 by_cases h : ((eF s).size : Int) > 12
 ·simp only [if_pos h, if_pos (show (0 : Int) ≤ 12 by omega), if_pos (show (12 : Int) ≤ ((eF s).size : Int) by omega)]; rw [oI _ (by omega)]; exact iM _ (by rw [extract_size _ _ (by omega)]; omega)
 ·simp only [if_neg h]; rw [nL _ (by omega)]; exact iM _ (by omega)
theorem lw (l : List S90) (hn : l.length ≤ 1048578) (hs : ∀ w ∈ l, w.f0.size < 70368744177664) : ∀ (d i : Nat) (acc : List ByteArray), i + d = l.length → acc.length ≤ i →
  Ev (fun k => cA.l0 k acc l (i : Int)) (acc ++ (l.drop i).map (fun w => gw w.f0)) := by
 intro d; induction d with
 | zero =>
  intro i acc hi ha; refine Ev.step (fun k => cA.l0.eq_2 _ _ _ _) ?_; simp only [if_neg (show ¬ ((i : Int) < (l.length : Int)) by omega)]; rw [List.drop_eq_nil_of_le (by omega), List.map_nil, List.append_nil]; exact Ev.now _
 | succ d ih =>
  intro i acc hi ha; refine Ev.step (fun k => cA.l0.eq_2 _ _ _ _) ?_; simp only [if_pos (show ((i : Int) < (l.length : Int)) by omega), if_pos (show 0 ≤ (i : Int) by omega), jG l i (by omega), b9 i (by omega)]; refine Ev.bind (mv _ (hs _ (List.getElem_mem (by omega)))) ?_; simp only [if_pos (show acc.length < 8796093022208 by omega)]; have := ih (i + 1) (acc ++ [gw l[i].f0]) (by omega) (by simp; omega); rw [cZ l i (by omega), List.map_cons]; rw [List.append_assoc] at this; exact this
theorem gu (c : Int) (h0 : 0 ≤ c) (h1 : c ≤ 255) : dy.f c = some (decide (fU c)) := by
 simp only [dy.f, gh c h0 h1, Option.bind_some]; by_cases h : upP c
 ·have h' : 65 ≤ c ∧ c ≤ 90 := h; simp only [if_pos h, if_pos (show c + 32 ≥ 97 by omega), if_pos (show c + 32 ≤ 122 by omega)]; congr 1; symm; exact decide_eq_true (.inl h)
 ·have h' : ¬ (65 ≤ c ∧ c ≤ 90) := h; simp only [if_neg h]; by_cases h2 : c ≥ 97
  ·simp only [if_pos h2]; by_cases h3 : c ≤ 122
   ·simp only [if_pos h3]; congr 1; symm; exact decide_eq_true (.inr (.inl ⟨h2, h3⟩))
   ·simp only [if_neg h3, if_pos (show c ≥ 48 by omega)]; congr 1; exact decide_eq_decide.2 ⟨fun h4 => .inr (.inr ⟨by omega, h4⟩), fun h4 => by rcases h4 with h4 | h4 | h4; exact absurd h4 h; exact absurd h4.2 h3; exact h4.2⟩
  ·simp only [if_neg h2]; by_cases h3 : c ≥ 48
   ·simp only [if_pos h3]; congr 1; exact decide_eq_decide.2 ⟨fun h4 => .inr (.inr ⟨by omega, h4⟩), fun h4 => by rcases h4 with h4 | h4 | h4; exact absurd h4 h; exact absurd h4.1 h2; exact h4.2⟩
   ·simp only [if_neg h3]; congr 1; symm; exact decide_eq_false (fun h4 => by rcases h4 with h4 | h4 | h4; exact absurd h4 h; exact absurd h4.1 h2; exact absurd h4.1 h3)
theorem mI (s : ByteArray) (hn : s.size < 1099511627776) : ∀ (d : Nat),
  (∀ (i : Nat) (acc : List S90), i + d = s.size → acc.length ≤ i → Ev (fun k => a6.l0 k s acc (i : Int)) (acc ++ (cC i none ((ak s).drop i)).map (f8 s))) ∧
  (∀ (i j : Nat) (acc : List S90), i + d = s.size → j < i → acc.length ≤ j → Ev (fun k => a6.l1 k s acc (j : Int) (i : Int)) (acc ++ (cC i (some j) ((ak s).drop i)).map (f8 s))) := by
 have hb := bT s; intro d; induction d with
 | zero =>
  have h0 : ∀ (i : Nat) (acc : List S90), s.size ≤ i → Ev (fun k => a6.l0 k s acc (i : Int)) acc := by
   intro i acc hi; refine Ev.step (fun k => a6.l0.eq_2 _ _ _ _) ?_; simp only [if_neg (show ¬ ((i : Int) < (s.size : Int)) by omega)]; exact Ev.now _
  constructor
  ·intro i acc hi hacc; rw [List.drop_of_length_le (by omega)]; simpa [cC] using h0 i acc (by omega)
  ·intro i j acc hi hj hacc; rw [List.drop_of_length_le (by omega)]; refine Ev.step (fun k => a6.l1.eq_2 _ _ _ _ _) ?_; simp only [if_neg (show ¬ ((i : Int) < (s.size : Int)) by omega), if_neg (show ¬ (i : Int) = (j : Int) by omega), if_pos (show 0 ≤ (j : Int) by omega), if_pos (show (j : Int) ≤ (i : Int) by omega), if_pos (show (i : Int) ≤ (s.size : Int) by omega), if_pos (show acc.length < 4398046511104 by omega), bJ]; exact h0 i _ (by omega)
 | succ d ih =>
  have hr : ∀ c ∈ ak s, 0 ≤ c ∧ c ≤ 255 := fe s; have hstep : ∀ (i : Nat) (acc : List S90), i + (d + 1) = s.size → acc.length ≤ i → Ev (fun k => a6.l0 k s acc (i : Int)) (acc ++ (cC i none ((ak s).drop i)).map (f8 s)) := by
   intro i acc hi hacc; have hc := hr (ak s)[i] (List.getElem_mem _); refine Ev.step (fun k => a6.l0.eq_2 _ _ _ _) ?_; simp only [if_pos (show ((i : Int) < (s.size : Int)) by omega)]; refine Ev.step (fun k => a6.l1.eq_2 _ _ _ _ _) ?_; simp only [if_pos (show ((i : Int) < (s.size : Int)) by omega), if_pos (show 0 ≤ (i : Int) by omega), gJ s i (by omega), gu _ hc.1 hc.2, Option.bind_some, decide_eq_true_eq, b9 i (by omega), if_true]; rw [cZ (ak s) i (by omega)]; by_cases hw : fU (ak s)[i]
   ·simp only [if_pos hw, cC]; exact ih.2 (i + 1) i acc (by omega) (by omega) (by omega)
   ·simp only [if_neg hw, cC]; exact ih.1 (i + 1) acc (by omega) (by omega)
  refine ⟨hstep, ?_⟩; intro i j acc hi hj hacc; have hc := hr (ak s)[i] (List.getElem_mem _); refine Ev.step (fun k => a6.l1.eq_2 _ _ _ _ _) ?_; simp only [if_pos (show ((i : Int) < (s.size : Int)) by omega), if_pos (show 0 ≤ (i : Int) by omega), gJ s i (by omega), gu _ hc.1 hc.2, Option.bind_some, decide_eq_true_eq, b9 i (by omega)]; have hd := cZ (ak s) i (by omega); by_cases hw : fU (ak s)[i]
  ·rw [hd]; simp only [if_pos hw, cC]; exact ih.2 (i + 1) j acc (by omega) (by omega) (by omega)
  ·simp only [if_neg hw, if_neg (show ¬ (i : Int) = (j : Int) by omega), if_pos (show 0 ≤ (j : Int) by omega), if_pos (show (j : Int) ≤ (i : Int) by omega), if_pos (show (i : Int) ≤ (s.size : Int) by omega), if_pos (show acc.length < 4398046511104 by omega), bJ]; have := hstep i (acc ++ [f8 s (j, i)]) hi (by simp; omega); rw [hd] at this ⊢; simp only [cC, if_neg hw, List.append_assoc] at this ⊢; exact this
theorem ln (s : ByteArray) (hn : s.size < 1099511627776) : Ev (fun k => a6.f k s) (eU s) := by
 have := (mI s hn s.size).1 0 [] (by omega) (by simp); rw [List.nil_append, List.drop_zero] at this; exact this
theorem lu (s : ByteArray) (hs : s.size ≤ 1048578) : Ev (fun k => cA.f k s) (fx s) := by
 simp only [cA.f]; have hl := fC s; refine Ev.bind (ln s (by omega)) ?_; exact lw (eU s) (by omega) (fun w hw => by have := hU s w hw; omega) (eU s).length 0 [] (by omega) (by simp)
theorem lD (s : ByteArray) : (fx s).length = (eU s).length := List.length_map ..
def jb (p : ByteArray × ByteArray) (id x : Int) : S76 := ⟨p.1, p.2, [⟨id, [x]⟩]⟩
def lI (id x : Int) (e : S76) : S76 := ⟨e.f0, e.f1, fh e.f2 id x⟩
open Classical in
noncomputable def d8 (p : ByteArray × ByteArray) (id x : Int) : List S76 → List S76
 | [] => [jb p id x]
 | e :: l => if ltP (cS e) p then e :: d8 p id x l else if cS e = p then lI id x e :: l else jb p id x :: e :: l
noncomputable def ki (id : Int) (name : ByteArray) : List ByteArray → Int → List S76 → List S76
 | [], _, L => L
 | t :: ts, x, L => ki id name ts (x + 1) (if t.size = 0 then L else d8 (name, t) id x L)
open Classical in
noncomputable def gX (p : ByteArray × ByteArray) (id x : Int) (l : List S76) : List S76 :=
 if ∃ e ∈ l, cS e = p then l.map (fun e => if cS e = p then lI id x e else e) else l ++ [jb p id x]
theorem l9 {p : ByteArray × ByteArray} {id x : Int} {l : List S76} (h : ∀ e ∈ l, cS e ≠ p) : l.map (fun e => if cS e = p then lI id x e else e) = l := by
 have : l.map (fun e => if cS e = p then lI id x e else e) = l.map (fun e => e) := List.map_congr_left (fun e he => if_neg (h e he)); rw [this, List.map_id']
def jZ (l : List S76) : Prop := l.Pairwise (fun a b => ltP (cS a) (cS b))
theorem l3 (p : ByteArray × ByteArray) (id x : Int) : ∀ {l : List S76}, jZ l → (d8 p id x l).Perm (gX p id x l)
 | [], _ => by
  rw [d8, gX, if_neg (by simp)]; exact List.Perm.refl _
 | e :: l, h => by
  obtain ⟨h1, h2⟩ := List.pairwise_cons.1 h; have ih := l3 p id x h2; rw [d8]; split
  ·rename_i hlt
   have hne : cS e ≠ p := fun he => fw _ (by rw [← he] at hlt; exact hlt)
   have e2 : gX p id x (e :: l) = e :: gX p id x l := by
    unfold gX
    by_cases hc : ∃ y ∈ l, cS y = p
    ·rw [if_pos hc, if_pos (by obtain ⟨y, hy, hk⟩ := hc; exact ⟨y, List.mem_cons_of_mem _ hy, hk⟩), List.map_cons, if_neg hne]
    ·rw [if_neg hc, if_neg (fun ⟨y, hy, hk⟩ => by
      rcases List.mem_cons.1 hy with hy | hy
      ·exact hne (by rw [← hy]; exact hk)
      ·exact hc ⟨y, hy, hk⟩)]
     rfl
   rw [e2]; exact ih.cons _
  ·rename_i hlt
   split
   ·rename_i heq
    have hno : ∀ y ∈ l, cS y ≠ p := fun y hy hk => fw _ (by have := h1 y hy; rw [heq, hk] at this; exact this)
    have e2 : gX p id x (e :: l) = lI id x e :: l := by
     unfold gX
     rw [if_pos ⟨e, by simp, heq⟩, List.map_cons, if_pos heq, l9 hno]
    rw [e2]
   ·rename_i hne
    have hgt : ltP p (cS e) := by
     rcases f3 (cS e) p with h | h | h
     ·exact absurd h hlt
     ·exact absurd h hne
     ·exact h
    have hno : ∀ y ∈ e :: l, cS y ≠ p := fun y hy hk => by
     rcases List.mem_cons.1 hy with hy | hy
     ·exact hne (by rw [← hy]; exact hk)
     ·exact fw _ (by have := ft hgt (h1 y hy); rw [hk] at this; exact this)
    have e2 : gX p id x (e :: l) = (e :: l) ++ [jb p id x] := by
     unfold gX
     rw [if_neg (fun ⟨y, hy, hk⟩ => hno y hy hk)]
    rw [e2]; exact (List.perm_append_singleton _ _).symm
theorem nj {p : ByteArray × ByteArray} {id x : Int} : ∀ {l : List S76} {y : S76}, y ∈ d8 p id x l → cS y = p ∨ ∃ e ∈ l, cS y = cS e
 | [], y, h => by
  rw [d8, List.mem_singleton] at h; exact .inl (by rw [h]; rfl)
 | e :: l, y, h => by
  rw [d8] at h; split at h
  ·rcases List.mem_cons.1 h with h | h
   ·exact .inr ⟨e, by simp, by rw [h]⟩
   ·rcases nj h with h | ⟨z, hz, h⟩
    ·exact .inl h
    ·exact .inr ⟨z, List.mem_cons_of_mem _ hz, h⟩
  ·split at h
   ·rcases List.mem_cons.1 h with h | h
    ·exact .inr ⟨e, by simp, by rw [h]; rfl⟩
    ·exact .inr ⟨y, List.mem_cons_of_mem _ h, rfl⟩
   ·rcases List.mem_cons.1 h with h | h
    ·exact .inl (by rw [h]; rfl)
    ·exact .inr ⟨y, h, rfl⟩
theorem jF (p : ByteArray × ByteArray) (id x : Int) : ∀ {l : List S76}, jZ l → jZ (d8 p id x l)
 | [], _ => by rw [d8]; exact List.pairwise_singleton _ _
 | e :: l, h => by
  obtain ⟨h1, h2⟩ := List.pairwise_cons.1 h; rw [d8]; split
  ·rename_i hlt
   refine List.pairwise_cons.2 ⟨fun y hy => ?_, jF p id x h2⟩; rcases nj hy with hy | ⟨z, hz, hy⟩
   ·rw [hy]; exact hlt
   ·rw [hy]; exact h1 z hz
  ·rename_i hlt
   split
   ·exact List.pairwise_cons.2 ⟨h1, h2⟩
   ·rename_i hne
    have hgt : ltP p (cS e) := by
     rcases f3 (cS e) p with h | h | h
     ·exact absurd h hlt
     ·exact absurd h hne
     ·exact h
    refine List.pairwise_cons.2 ⟨fun y hy => ?_, h⟩; rcases List.mem_cons.1 hy with hy | hy
    ·rw [hy]; exact hgt
    ·exact ft hgt (h1 y hy)
theorem pJ {p : ByteArray × ByteArray} {id x : Int} {l m : List S76} (h : l.Perm m) : (gX p id x l).Perm (gX p id x m) := by
 unfold gX
 by_cases hc : ∃ e ∈ l, cS e = p
 ·rw [if_pos hc, if_pos (by obtain ⟨e, he, hk⟩ := hc; exact ⟨e, h.mem_iff.1 he, hk⟩)]; exact h.map _
 ·rw [if_neg hc, if_neg (fun ⟨e, he, hk⟩ => hc ⟨e, h.mem_iff.2 he, hk⟩)]; exact h.append_right _
theorem kO {p : ByteArray × ByteArray} {id x : Int} : ∀ {G : List ((ByteArray × ByteArray) × List S50)} {y : ByteArray × ByteArray}, y ∈ (PFnExactIndexDoc.stepG G p id x).map (·.1) → y = p ∨ y ∈ G.map (·.1)
 | [], y, h => by
  rw [PFnExactIndexDoc.stepG] at h; exact .inl (by simpa using h)
 | g :: G, y, h => by
  rw [PFnExactIndexDoc.stepG] at h; split at h
  ·rename_i heq
   rw [List.map_cons] at h; rcases List.mem_cons.1 h with h | h
   ·exact .inl h
   ·exact .inr (by rw [List.map_cons]; exact List.mem_cons_of_mem _ h)
  ·rw [List.map_cons] at h; rcases List.mem_cons.1 h with h | h
   ·exact .inr (by rw [List.map_cons, h]; exact List.mem_cons_self ..)
   ·rcases kO h with h | h
    ·exact .inl h
    ·exact .inr (by rw [List.map_cons]; exact List.mem_cons_of_mem _ h)
theorem gK {p : ByteArray × ByteArray} {id x : Int} : ∀ {G : List ((ByteArray × ByteArray) × List S50)}, (G.map (·.1)).Nodup → ((PFnExactIndexDoc.stepG G p id x).map (·.1)).Nodup
 | [], _ => by rw [PFnExactIndexDoc.stepG]; simp
 | g :: G, hn => by
  rw [List.map_cons, List.nodup_cons] at hn; rw [PFnExactIndexDoc.stepG]; split
  ·rename_i heq
   rw [List.map_cons, List.nodup_cons]; exact ⟨by show p ∉ _; rw [← heq]; exact hn.1, hn.2⟩
  ·rename_i hne
   rw [List.map_cons, List.nodup_cons]; refine ⟨fun h => ?_, gK hn.2⟩; rcases kO h with h | h
   ·exact hne h
   ·exact hn.1 h
theorem kd {p : ByteArray × ByteArray} {id x : Int} : ∀ {G : List ((ByteArray × ByteArray) × List S50)}, (G.map (·.1)).Nodup → (PFnExactIndexDoc.stepG G p id x).map toE = gX p id x (G.map toE)
 | [], _ => by
  rw [PFnExactIndexDoc.stepG, gX, if_neg (by simp)]; rfl
 | g :: G, hn => by
  rw [List.map_cons, List.nodup_cons] at hn; have ih := kd (p := p) (id := id) (x := x) hn.2; have hkey : ∀ y : (ByteArray × ByteArray) × List S50, cS (toE y) = y.1 := fun y => rfl
  rw [PFnExactIndexDoc.stepG]; split
  ·rename_i heq
   have hno : ∀ y ∈ G.map toE, cS y ≠ p := fun y hy hk => by
    obtain ⟨z, hz, rfl⟩ := List.mem_map.1 hy; rw [hkey] at hk; exact hn.1 (List.mem_map.2 ⟨z, hz, by rw [hk, heq]⟩)
   unfold gX
   rw [List.map_cons, List.map_cons, if_pos ⟨toE g, by simp, by rw [hkey]; exact heq⟩, List.map_cons, if_pos (by rw [hkey]; exact heq), l9 hno]; subst heq; rfl
  ·rename_i hne
   rw [List.map_cons, ih, List.map_cons]; unfold gX
   by_cases hc : ∃ y ∈ G.map toE, cS y = p
   ·rw [if_pos hc, if_pos (by obtain ⟨y, hy, hk⟩ := hc; exact ⟨y, List.mem_cons_of_mem _ hy, hk⟩), List.map_cons, if_neg (by rw [hkey]; exact hne)]
   ·rw [if_neg hc, if_neg (fun ⟨y, hy, hk⟩ => by
     rcases List.mem_cons.1 hy with hy | hy
     ·rw [hy, hkey] at hk; exact hne hk
     ·exact hc ⟨y, hy, hk⟩)]
    rfl
theorem ng (G : List ((ByteArray × ByteArray) × List S50)) : (G.map toE).map cS = G.map (·.1) := by
 rw [List.map_map]; rfl
theorem pX {G : List ((ByteArray × ByteArray) × List S50)} (hn : (G.map (·.1)).Nodup) (p : ByteArray × ByteArray) (id x : Int) : ei ((PFnExactIndexDoc.stepG G p id x).map toE) = d8 p id x (ei (G.map toE)) := by
 have hs : jZ (ei (G.map toE)) := fo _ (by rw [ng]; exact hn); refine jq ?_ (fo _ (by rw [ng]; exact gK hn)) (jF p id x hs); refine (fF _).trans ?_; rw [kd hn]; exact (pJ (fF _).symm).trans (l3 p id x hs).symm
theorem ib (id : Int) (name : ByteArray) : ∀ (ts : List ByteArray) (x : Int) (G : List ((ByteArray × ByteArray) × List S50)), (G.map (·.1)).Nodup →
  ki id name ts x (ei (G.map toE)) = ei ((fR id name ts x G).map toE) ∧ ((fR id name ts x G).map (·.1)).Nodup
 | [], _, G, hn => ⟨rfl, hn⟩
 | t :: ts, x, G, hn => by
  rw [ki, fR]; by_cases ht : t.size = 0
  ·rw [if_pos ht, if_pos ht]; exact ib id name ts (x + 1) G hn
  ·rw [if_neg ht, if_neg ht, ← pX hn]; exact ib id name ts (x + 1) _ (gK hn)
def fY (c : Nat) (l : List S76) : Prop := l.length ≤ c ∧ ∀ e ∈ l, e.f2 ≠ [] ∧ LenP c e.f2
theorem f9 {n : ByteArray} : ∀ {F : List S92}, (∀ x ∈ F, x.f0 ≠ n) → em n F = (⟨#[]⟩, 0, 0)
 | [], _ => rfl
 | f :: F, h => by
  rw [em, if_neg (h f (by simp))]; exact f9 (fun x hx => h x (List.mem_cons_of_mem _ hx))
theorem ga {n : ByteArray} : ∀ {F : List S92} {j : Nat} (hj : j < F.length), F[j].f0 = n → (∀ m (hm : m < j), F[m].f0 ≠ n) → em n F = (F[j].f0, F[j].f1, F[j].f2)
 | [], _, hj, _, _ => by simp at hj
 | f :: F, 0, _, h, _ => by
  rw [em]; have h' : f.f0 = n := h; rw [if_pos h']; rfl
 | f :: F, j + 1, hj, h, hb => by
  have h0 : f.f0 ≠ n := hb 0 (by omega); rw [em, if_neg h0]; exact ga (F := F) (j := j) (by simpa using hj) (by simpa using h) (fun m hm => by have := hb (m + 1) (by omega); simpa using this)
theorem jR (l : List S92) (n : ByteArray) (hn : l.length < 4611686018427387904) : ∀ (d i : Nat), i + d = l.length → (∀ m (hm : m < l.length), m < i → l[m].f0 ≠ n) →
  ∃ r, Ev (fun k => ba.l0 k l n (i : Int)) r ∧ ((r = -1 ∧ ∀ x ∈ l, x.f0 ≠ n) ∨ ∃ (j : Nat) (hj : j < l.length), r = (j : Int) ∧ l[j].f0 = n ∧ ∀ m (hm : m < j), l[m].f0 ≠ n) := by
 intro d; induction d with
 | zero =>
  intro i hi hb; refine ⟨-1, Ev.step (fun k => ba.l0.eq_2 _ _ _ _) ?_, .inl ⟨rfl, fun x hx => ?_⟩⟩
  ·simp only [if_neg (show ¬ ((i : Int) < (l.length : Int)) by omega)]; exact Ev.now _
  ·obtain ⟨m, hm, rfl⟩ := List.mem_iff_getElem.1 hx; exact hb m hm (by omega)
 | succ d ih =>
  intro i hi hb; by_cases h : l[i].f0 = n
  ·refine ⟨(i : Int), Ev.step (fun k => ba.l0.eq_2 _ _ _ _) ?_, .inr ⟨i, by omega, rfl, h, fun m hm => hb m (by omega) hm⟩⟩; simp only [if_pos (show ((i : Int) < (l.length : Int)) by omega), if_pos (show 0 ≤ (i : Int) by omega), eo l i (by omega), toList_inj, if_pos h]; exact Ev.now _
  ·obtain ⟨r, hr, hq⟩ := ih (i + 1) (by omega) (fun m hm hlt => by
    rcases Nat.lt_or_ge m i with h1 | h1
    ·exact hb m hm h1
    ·obtain rfl : m = i := by omega
     exact h)
   refine ⟨r, Ev.step (fun k => ba.l0.eq_2 _ _ _ _) ?_, hq⟩; simp only [if_pos (show ((i : Int) < (l.length : Int)) by omega), if_pos (show 0 ≤ (i : Int) by omega), eo l i (by omega), toList_inj, if_neg h, b9 i (by omega)]; exact hr
theorem fi (l : List S92) (n : ByteArray) (hn : l.length < 4611686018427387904) :
  ∃ r, Ev (fun k => ba.f k l n) r ∧ ((r = -1 ∧ ∀ x ∈ l, x.f0 ≠ n) ∨ ∃ (j : Nat) (hj : j < l.length), r = (j : Int) ∧ l[j].f0 = n ∧ ∀ m (hm : m < j), l[m].f0 ≠ n) :=
 jR l n hn l.length 0 (by omega) (fun m hm h => absurd h (by omega))
theorem jN (F : List S92) (hF : F.length ≤ 1048576) (n : ByteArray) : Ev (fun k => dM.f k F n 1) (er F n == 1) := by
 simp only [dM.f]; obtain ⟨r, hr, hq⟩ := fi F n (by omega); refine Ev.bind hr ?_; rcases hq with ⟨rfl, h⟩ | ⟨j, hj, rfl, h1, h2⟩
 ·simp only [if_neg (show ¬ ((-1 : Int) ≥ 0) by omega), er, f9 h]; exact Ev.now _
 ·simp only [if_pos (show ((j : Int) ≥ 0) by omega), if_pos (show (0 : Int) ≤ (j : Int) by omega), if_pos (show ((j : Int) < (F.length : Int)) by omega), eo F j hj, er, ga hj h1 h2]; exact Ev.now _
theorem ir {c d : Nat} {l : List S76} (h : fY c l) (hd : c ≤ d) : fY d l :=
 ⟨by have := h.1; omega, fun e he => ⟨(h.2 e he).1, by have := (h.2 e he).2.1; omega, fun q hq => by have := (h.2 e he).2.2 q hq; omega⟩⟩
theorem rO (ps : List S50) (id x : Int) : fh ps id x ≠ [] := by
 unfold fh
 cases hl : ps.getLast? with
 | none => simp
 | some q =>
  simp only; split
  ·intro h; have := congrArg List.length h; rw [List.length_set] at this; have h2 : ps = [] := List.eq_nil_of_length_eq_zero this; rw [h2] at hl; simp at hl
  ·simp
theorem j9 {c : Nat} {p : ByteArray × ByteArray} {id x : Int} : ∀ {l : List S76}, (∀ e ∈ l, e.f2 ≠ [] ∧ LenP c e.f2) → (d8 p id x l).length ≤ l.length + 1 ∧ ∀ e ∈ d8 p id x l, e.f2 ≠ [] ∧ LenP (c + 1) e.f2
 | [], _ => by
  rw [d8]; exact ⟨by simp, fun e he => by rw [List.mem_singleton] at he; rw [he]; exact ⟨by simp [jb], by simp [jb, LenP]⟩⟩
 | y :: l, h => by
  have hw : ∀ e ∈ l, e.f2 ≠ [] ∧ LenP (c + 1) e.f2 := fun e he => by
   have := h e (List.mem_cons_of_mem _ he); exact ⟨this.1, by have := this.2.1; omega, fun q hq => by have := this.2.2 q hq; omega⟩
  have hy := h y (by simp); have hy2 : y.f2 ≠ [] ∧ LenP (c + 1) y.f2 := ⟨hy.1, by have := hy.2.1; omega, fun q hq => by have := hy.2.2 q hq; omega⟩; rw [d8]; split
  ·have ih := j9 (c := c) (p := p) (id := id) (x := x) (l := l) (fun e he => h e (List.mem_cons_of_mem _ he)); refine ⟨by simp; exact ih.1, fun e he => ?_⟩; rcases List.mem_cons.1 he with he | he
   ·rw [he]; exact hy2
   ·exact ih.2 e he
  ·split
   ·refine ⟨by simp, fun e he => ?_⟩; rcases List.mem_cons.1 he with he | he
    ·rw [he]; exact ⟨rO _ _ _, LenP.step hy.2 id x⟩
    ·exact hw e he
   ·refine ⟨by simp, fun e he => ?_⟩; rcases List.mem_cons.1 he with he | he
    ·rw [he]; exact ⟨by simp [jb], by simp [jb, LenP]⟩
    ·rcases List.mem_cons.1 he with he | he
     ·rw [he]; exact hy2
     ·exact hw e he
theorem n9 {c : Nat} {l : List S76} (h : fY c l) (p : ByteArray × ByteArray) (id x : Int) : fY (c + 1) (d8 p id x l) := by
 have := j9 (c := c) (p := p) (id := id) (x := x) h.2; exact ⟨by have := h.1; omega, this.2⟩
theorem f4 : ∀ (x y : List UInt8), Op.bytesLess x y = decide (x < y)
 | [], [] => by simp [Op.bytesLess]
 | _ :: _, [] => by simp [Op.bytesLess]
 | [], _ :: _ => by simp [Op.bytesLess]
 | a :: x, b :: y => by
  rw [Op.bytesLess, f4 x y]; simp only [List.cons_lt_cons_iff]; by_cases h1 : a < b <;> by_cases h2 : a = b <;> by_cases h3 : x < y <;> simp [h1, h2, h3]
theorem iS (l : List S76) (j : Nat) (h : j < l.length) : aq l (j : Int) = l[j] := by
 unfold aq; simp [List.getD_eq_getElem?_getD, List.getElem?_eq_getElem h]
theorem sa (l : List S76) (p : ByteArray × ByteArray) (id x : Int) (hn : l.length ≤ 1099511627776) : ∀ (d i : Nat), i + d = l.length →
  ∃ (j : Nat) (b : Bool), Ev (fun k => bC.l0 k l p.1 p.2 (i : Int)) ((j : Int), b) ∧ i ≤ j ∧ j ≤ l.length ∧ (b = true → ∃ h : j < l.length, d8 p id x (l.drop i) = (l.drop i).set (j - i) (lI id x l[j])) ∧
   (b = false → d8 p id x (l.drop i) = (l.drop i).take (j - i) ++ [jb p id x] ++ l.drop j) := by
 intro d; induction d with
 | zero =>
  intro i hi; refine ⟨i, false, Ev.step (fun k => bC.l0.eq_2 _ _ _ _ _) ?_, Nat.le_refl _, by omega, fun h => (by cases h), fun _ => ?_⟩
  ·simp only [if_neg (show ¬ ((i : Int) < (l.length : Int)) by omega)]; exact Ev.now _
  ·rw [List.drop_eq_nil_of_le (by omega), d8]; simp
 | succ d ih =>
  intro i hi; have hil : i < l.length := by omega
  have hlt : ltP (cS l[i]) p ↔ (l[i].f0.toList < p.1.toList ∨ l[i].f0.toList = p.1.toList ∧ l[i].f1.toList < p.2.toList) := Iff.rfl; have next : ltP (cS l[i]) p → ∃ (j : Nat) (b : Bool), Ev (fun k => bC.l0 k l p.1 p.2 ((i + 1 : Nat) : Int)) ((j : Int), b) ∧ i ≤ j ∧ j ≤ l.length ∧ (b = true → ∃ h : j < l.length, d8 p id x (l.drop i) = (l.drop i).set (j - i) (lI id x l[j])) ∧
   (b = false → d8 p id x (l.drop i) = (l.drop i).take (j - i) ++ [jb p id x] ++ l.drop j) := by
   intro h; obtain ⟨j, b, h1, h2, h3, h4, h5⟩ := ih (i + 1) (by omega); have e1 : d8 p id x (l.drop i) = l[i] :: d8 p id x (l.drop (i + 1)) := by rw [cZ l i hil, d8, if_pos h]
   have e2 : j - i = (j - (i + 1)) + 1 := by omega
   refine ⟨j, b, h1, by omega, h3, fun hb => ?_, fun hb => ?_⟩
   ·obtain ⟨hj, h4⟩ := h4 hb; exact ⟨hj, by rw [e1, h4, e2, cZ l i hil, List.set_cons_succ]⟩
   ·rw [e1, h5 hb, e2, cZ l i hil, List.take_succ_cons]; rfl
  have stop : ∀ b : Bool, ¬ ltP (cS l[i]) p → (b = true ↔ cS l[i] = p) → ∃ (j : Nat) (b' : Bool), Ev (fun _ : Nat => some ((i : Int), b)) ((j : Int), b') ∧ i ≤ j ∧ j ≤ l.length ∧ (b' = true → ∃ h : j < l.length, d8 p id x (l.drop i) = (l.drop i).set (j - i) (lI id x l[j])) ∧
   (b' = false → d8 p id x (l.drop i) = (l.drop i).take (j - i) ++ [jb p id x] ++ l.drop j) := by
   intro b h hb; refine ⟨i, b, Ev.now _, Nat.le_refl _, by omega, fun hb' => ⟨hil, ?_⟩, fun hb' => ?_⟩
   ·rw [Nat.sub_self, cZ l i hil, d8, if_neg h, if_pos (hb.1 hb'), List.set_cons_zero]
   ·have hk : cS l[i] ≠ p := fun hk => by rw [hb.2 hk] at hb'; cases hb'
    rw [Nat.sub_self, cZ l i hil, d8, if_neg h, if_neg hk, List.take_zero]; rfl
  have lift : ∀ {g : Nat → Option (Int × Bool)}, (∃ (j : Nat) (b : Bool), Ev g ((j : Int), b) ∧ i ≤ j ∧ j ≤ l.length ∧ (b = true → ∃ h : j < l.length, d8 p id x (l.drop i) = (l.drop i).set (j - i) (lI id x l[j])) ∧
   (b = false → d8 p id x (l.drop i) = (l.drop i).take (j - i) ++ [jb p id x] ++ l.drop j)) → (∀ k, bC.l0 (k + 1) l p.1 p.2 (i : Int) = g k) → ∃ (j : Nat) (b : Bool), Ev (fun k => bC.l0 k l p.1 p.2 (i : Int)) ((j : Int), b) ∧ i ≤ j ∧ j ≤ l.length ∧ (b = true → ∃ h : j < l.length, d8 p id x (l.drop i) = (l.drop i).set (j - i) (lI id x l[j])) ∧
   (b = false → d8 p id x (l.drop i) = (l.drop i).take (j - i) ++ [jb p id x] ++ l.drop j) := by
   intro g ⟨j, b, h1, h2⟩ he; exact ⟨j, b, Ev.step he h1, h2⟩
  have hgo : ∀ k, bC.l0 (k + 1) l p.1 p.2 (i : Int) = if Op.bytesLess l[i].f0.toList p.1.toList = true then bC.l0 k l p.1 p.2 ((i + 1 : Nat) : Int) else if l[i].f0.toList = p.1.toList then if Op.bytesLess l[i].f1.toList p.2.toList = true then bC.l0 k l p.1 p.2 ((i + 1 : Nat) : Int) else some ((i : Int), l[i].f1.toList == p.2.toList) else some ((i : Int), false) := by
   intro k; rw [bC.l0.eq_2]; simp only [if_pos (show ((i : Int) < (l.length : Int)) by omega), if_pos (show 0 ≤ (i : Int) by omega), iS l i hil, b9 i (by omega)]
  by_cases c1 : l[i].f0.toList < p.1.toList
  ·refine lift (next (hlt.2 (.inl c1))) (fun k => ?_); rw [hgo k, if_pos (by rw [f4]; exact decide_eq_true c1)]
  ·by_cases c2 : l[i].f0.toList = p.1.toList
   ·by_cases c3 : l[i].f1.toList < p.2.toList
    ·refine lift (next (hlt.2 (.inr ⟨c2, c3⟩))) (fun k => ?_); rw [hgo k, if_neg (by rw [f4]; simpa using c1), if_pos c2, if_pos (by rw [f4]; exact decide_eq_true c3)]
    ·refine lift (stop (l[i].f1.toList == p.2.toList) (fun h => ?_) ?_) (fun k => ?_)
     ·rcases hlt.1 h with h | h
      ·exact c1 h
      ·exact c3 h.2
     ·rw [beq_iff_eq]; constructor
      ·intro h; exact Prod.ext (toList_inj.1 c2) (toList_inj.1 h)
      ·intro h; rw [← h]; rfl
     ·rw [hgo k, if_neg (by rw [f4]; simpa using c1), if_pos c2, if_neg (by rw [f4]; simpa using c3)]
   ·refine lift (stop false (fun h => ?_) ⟨fun h => (by cases h), fun h => absurd (by rw [← h]; rfl) c2⟩) (fun k => ?_)
    ·rcases hlt.1 h with h | h
     ·exact c1 h
     ·exact c2 h.1
    ·rw [hgo k, if_neg (by rw [f4]; simpa using c1), if_neg c2]
theorem kw (l : List S76) (p : ByteArray × ByteArray) (id x : Int) (hg : fY 999999 l) : Ev (fun k => co.f k l p.1 p.2 id x) (d8 p id x l) := by
 have hlen := hg.1; obtain ⟨j, b, h1, _, h2, h3, h4⟩ := sa l p id x (by omega) l.length 0 (by omega); simp only [List.drop_zero, Nat.sub_zero] at h3 h4; have h1' : Ev (fun k => bC.f k l p.1 p.2) ((j : Int), b) := by simpa [bC.f] using h1
 simp only [co.f]; refine Ev.bind h1' ?_; cases b with
 | true =>
  obtain ⟨hj, h3⟩ := h3 rfl; have he := hg.2 l[j] (List.getElem_mem hj); have hw : wide l[j].f2 = true := by
   unfold wide
   rw [Bool.and_eq_true, decide_eq_true_eq, List.all_eq_true]; exact ⟨by have := he.2.1; omega, fun q hq => by have := he.2.2 q hq; exact decide_eq_true (by omega)⟩
  simp only [if_true, bJ, List.getElem?_eq_getElem hj]; rw [h3]; rw [if_pos ⟨by omega, he.1, hw⟩]; exact Ev.now _
 | false =>
  simp only [if_neg (show ¬ (false = true) by decide), bJ]; rw [h4 rfl, if_pos ⟨by omega, by omega, by omega⟩]; exact Ev.now _
theorem eY (id : Int) (name : ByteArray) : ∀ (ts : List ByteArray) (x : Int) (L : List S76) (c : Nat), fY c L → c + ts.length ≤ 1000000 →
  Ev (fun k => ch.ts k id name ts x L) (ki id name ts x L) ∧ fY (c + ts.length) (ki id name ts x L)
 | [], x, L, c, h, hc => ⟨gq (fun k => rfl), by simpa [ki] using h⟩
 | t :: ts, x, L, c, h, hc => by
  rw [List.length_cons] at hc; rw [ki]; by_cases ht : t.size = 0
  ·rw [if_pos ht]; have ih := eY id name ts (x + 1) L (c + 1) (ir h (by omega)) (by omega); refine ⟨?_, by have := ih.2; rw [List.length_cons]; rw [show c + 1 + ts.length = c + (ts.length + 1) by omega] at this; exact this⟩; simp only [ch.ts, if_pos ht]; exact ih.1
  ·rw [if_neg ht]; have ih := eY id name ts (x + 1) (d8 (name, t) id x L) (c + 1) (n9 h _ _ _) (by omega); refine ⟨?_, by have := ih.2; rw [List.length_cons]; rw [show c + 1 + ts.length = c + (ts.length + 1) by omega] at this; exact this⟩; simp only [ch.ts, if_neg ht]; exact Ev.bind (kw L (name, t) id x (ir h (by omega))) ih.1
theorem qW (w : ByteArray) : (noS w).size ≤ w.size := by
 unfold noS
 split
 ·rw [extract_size w _ (by omega)]; omega
 ·exact Nat.le_refl _
theorem nv (w : ByteArray) : (fk w).size ≤ w.size := by
 unfold fk
 split
 ·exact Nat.zero_le _
 ·exact Nat.le_refl _
theorem oc (s : ByteArray) : (gw s).size ≤ 12 := by
 have h1 := nv (noS (gx (eF s))); have h2 := qW (gx (eF s)); have h3 := kQ (eF s); unfold gw; omega
theorem mG (s : ByteArray) : ((fx s).all fun t => decide (t.size ≤ 1000000)) = true := by
 rw [List.all_eq_true]; intro t ht; obtain ⟨w, _, rfl⟩ := List.mem_map.1 ht; have := oc w.f0; exact decide_eq_true (by omega)
set_option maxRecDepth 20000 in
theorem jg (F : List S92) (hF : F.length ≤ 1048576) (id : Int) : ∀ (cs : List S86) (G : List ((ByteArray × ByteArray) × List S50)) (n : Nat), (G.map (·.1)).Nodup → fY n (ei (G.map toE)) → (∀ x ∈ cs, x.f0.size ≤ 1000000 ∧ x.f1.size ≤ 1000) → n + cs.length * 1000 ≤ 1000000 →
  ∃ (G' : List ((ByteArray × ByteArray) × List S50)) (n' : Nat), Ev (fun k => entriesW.cs k F id cs (G, n)) (G', n') ∧ Ev (fun k => ch.cs k F id cs (ei (G.map toE))) (ei (G'.map toE)) ∧ (G'.map (·.1)).Nodup ∧ fY n' (ei (G'.map toE)) ∧ n' ≤ n + cs.length * 1000
 | [], G, n, hn, hg, _, _ => ⟨G, n, gq (fun k => rfl), gq (fun k => rfl), hn, hg, by omega⟩
 | c :: cs, G, n, hn, hg, hs, hc => by
  rw [List.length_cons] at hc; have hsc := hs c (by simp); have hst := fun x hx => hs x (List.mem_cons_of_mem _ hx)
  simp only [entriesW.cs, ch.cs]; have hf := gi c.f0 F (by omega); have hk := jN F hF c.f0; by_cases h1 : er F c.f0 = 1
  ·have hlen : (fx c.f1).length ≤ 1000 := by rw [lD]; have := fC c.f1; omega
   obtain ⟨hw1, hw2⟩ := eY id c.f0 (fx c.f1) 0 (ei (G.map toE)) n hg (by omega); obtain ⟨hf1, hf2⟩ := ib id c.f0 (fx c.f1) 0 G hn; rw [hf1] at hw1 hw2; obtain ⟨G', n', e1, e2, e3, e4, e5⟩ := jg F hF id cs (fR id c.f0 (fx c.f1) 0 G) (n + (fx c.f1).length) hf2 hw2 hst (by omega); refine ⟨G', n', ?_, ?_, e3, e4, by rw [List.length_cons]; omega⟩
   ·refine Ev.bind hf ?_; have h1' : (em c.f0 F).2.1 = 1 := h1; simp only [if_pos h1']; refine Ev.bind (lS c.f1 (by omega)) ?_; have hcond : n + (fx c.f1).length ≤ 1000000 ∧ c.f0.size ≤ 1000000 ∧ ((fx c.f1).all fun t => decide (t.size ≤ 1000000)) = true := ⟨by omega, by omega, mG _⟩; simp only [if_pos hcond]; exact e1
   ·refine Ev.bind hk ?_; simp only [h1, beq_self_eq_true, if_true]; refine Ev.bind (lu c.f1 (by omega)) ?_; exact Ev.bind hw1 e2
  ·obtain ⟨G', n', e1, e2, e3, e4, e5⟩ := jg F hF id cs G n hn hg hst (by omega); refine ⟨G', n', ?_, ?_, e3, e4, by rw [List.length_cons]; omega⟩
   ·refine Ev.bind hf ?_; have h1' : ¬ (em c.f0 F).2.1 = 1 := h1; simp only [if_neg h1']; exact e1
   ·refine Ev.bind hk ?_; rw [beq_eq_false_iff_ne.2 h1]; simp only [if_neg (show ¬ (false = true) by decide)]; exact e2
set_option maxRecDepth 20000 in
theorem mc (F : List S92) (hF : F.length ≤ 1048576) : ∀ (rs : List S46) (G : List ((ByteArray × ByteArray) × List S50)) (n : Nat), (G.map (·.1)).Nodup → fY n (ei (G.map toE)) → (∀ r ∈ rs, r.f1.f1.length ≤ 4 ∧ ∀ x ∈ r.f1.f1, x.f0.size ≤ 1000000 ∧ x.f1.size ≤ 1000) → n + rs.length * 4000 ≤ 1000000 →
  ∃ (G' : List ((ByteArray × ByteArray) × List S50)) (n' : Nat), Ev (fun k => entriesW.rs k F rs (G, n)) (G', n') ∧ Ev (fun k => b4.rs k F rs (ei (G.map toE))) (ei (G'.map toE)) ∧ fY n' (ei (G'.map toE)) ∧ n' ≤ n + rs.length * 4000
 | [], G, n, hn, hg, _, _ => ⟨G, n, gq (fun k => rfl), gq (fun k => rfl), hg, by omega⟩
 | r :: rs, G, n, hn, hg, hs, hc => by
  rw [List.length_cons] at hc; have hsr := hs r (by simp); obtain ⟨G1, n1, e1, e2, e3, e4, e5⟩ := jg F hF r.f0 r.f1.f1 G n hn hg hsr.2 (by omega); obtain ⟨G2, n2, d1, d2, d4, d5⟩ := mc F hF rs G1 n1 e3 e4 (fun x hx => hs x (List.mem_cons_of_mem _ hx)) (by omega); refine ⟨G2, n2, ?_, ?_, d4, by rw [List.length_cons]; omega⟩
  ·simp only [entriesW.rs]; exact Ev.bind e1 d1
  ·simp only [b4.rs]; exact Ev.bind e2 d2
theorem kz (F : List S92) (hF : F.length ≤ 1048576) (rs : List S46) (hs : ∀ r ∈ rs, r.f1.f1.length ≤ 4 ∧ ∀ x ∈ r.f1.f1, x.f0.size ≤ 1000000 ∧ x.f1.size ≤ 1000) (hc : rs.length ≤ 8) :
  ∃ L : List S76, Ev (fun k => eq.f k F rs) L ∧ Ev (fun k => b4.f k F rs) L ∧ fY 32000 L := by
 have hg : fY 0 (ei (([] : List ((ByteArray × ByteArray) × List S50)).map toE)) := ⟨Nat.le_refl _, fun e he => by cases he⟩; obtain ⟨G, n, e1, e2, e3, e4⟩ := mc F hF rs [] 0 List.nodup_nil hg hs (by omega); refine ⟨ei (G.map toE), ?_, ?_, ir e3 (by omega)⟩
 ·simp only [eq.f, entriesW.f]; exact Ev.bind e1 (Ev.now _)
 ·simp only [b4.f]; exact e2
open Classical in
theorem ka {key : ByteArray} {l : List S86} (h : jB key l = true) : (∀ c ∈ l, eN (ak c.f0) = true ∧ ey c.f1 60 = true) ∧ eN (ak key) = true ∧ l.length ≤ 4 := by
 unfold jB at h
 have h1 := decide_eq_true_iff.1 h; refine ⟨fun c hc => ?_, h1.2⟩; obtain ⟨i, hi, rfl⟩ := List.mem_iff_getElem.1 hc; have h2 := h1.1 i hi (Nat.zero_le _); exact ⟨h2.1, h2.2.1⟩
open Classical in
theorem oL {s : ByteArray} {m : Int} (h : ey s m = true) : (s.size : Int) ≤ m := by
 unfold ey at h
 exact (decide_eq_true_iff.1 h).2
open Classical in
theorem l6 {F : List S92} {R : List S46} {n : Int} (h : dp F R n 0) : ∀ r ∈ R, r.f1.f1.length ≤ 4 ∧ ∀ x ∈ r.f1.f1, x.f0.size ≤ 1000000 ∧ x.f1.size ≤ 1000 := by
 intro r hr; obtain ⟨i, hi, rfl⟩ := List.mem_iff_getElem.1 hr; have h1 := (h i hi (Nat.zero_le _)).1; have hp : jn F R[i].f1.f0 R[i].f1.f1 := by unfold gF at h1; exact of_decide_eq_true h1
 have hf := ka hp.2.1; refine ⟨hf.2.2, fun x hx => ?_⟩; have h2 := hf.1 x hx; have h3 := oL h2.2; have h4 := (fX.1 h2.1).2.2; rw [bT] at h4; exact ⟨by omega, by omega⟩
theorem dW {F : List S92} {R : List S46} {n : Int} {i : Nat} (h : i < R.length) : dp F R n i ↔ m5 F R n i h ∧ dp F R n (i + 1) := by
 constructor
 ·intro h2; exact ⟨h2 i h (Nat.le_refl _), fun j hj hij => h2 j hj (by omega)⟩
 ·rintro ⟨h1, h2⟩ j hj hij; rcases Nat.lt_or_ge i j with hlt | hge
  ·exact h2 j hj hlt
  ·obtain rfl : i = j := by omega
   exact h1
theorem kx {p q : S76} : p = q ↔ p.f0 = q.f0 ∧ p.f1 = q.f1 ∧ p.f2 = q.f2 := by
 constructor
 ·intro h; rw [h]; exact ⟨rfl, rfl, rfl⟩
 ·obtain ⟨a, b, e⟩ := p; obtain ⟨c, d, f⟩ := q; rintro ⟨h1, h2, h3⟩; have h1' : a = c := h1; have h2' : b = d := h2; have h3' : e = f := h3; rw [h1', h2', h3']
open Classical in
theorem qk (a b : List Int) (ha : a.length ≤ 1099511627776) : Ev (fun k => aM.f k a b) (decide (a = b)) := by
 simp only [aM.f]; by_cases hl : a.length = b.length
 ·simp only [if_pos (show (a.length : Int) = (b.length : Int) by omega)]; have main : ∀ (d i : Nat), i + d = a.length → Ev (fun k => aM.l0 k a b (a.length : Int) (i : Int)) (decide (a.drop i = b.drop i)) := by
   intro d; induction d with
   | zero =>
    intro i hi; refine Ev.step (fun k => aM.l0.eq_2 _ _ _ _ _) ?_; simp only [if_neg (show ¬ ((i : Int) < (a.length : Int)) by omega)]; rw [List.drop_eq_nil_of_le (by omega), List.drop_eq_nil_of_le (by omega)]; exact eA rfl (Ev.now _)
   | succ d ih =>
    intro i hi; have hia : i < a.length := by omega
    have hib : i < b.length := by omega
    refine Ev.step (fun k => aM.l0.eq_2 _ _ _ _ _) ?_; simp only [if_pos (show ((i : Int) < (a.length : Int)) by omega), if_pos (show (0 : Int) ≤ (i : Int) by omega), if_pos (show ((i : Int) < (b.length : Int)) by omega), jl a i hia, jl b i hib, b9 i (by omega)]; by_cases h : a[i] = b[i]
    ·simp only [if_pos h]; exact cR ⟨fun h2 => (ct hia hib).2 ⟨h, h2⟩, fun h2 => ((ct hia hib).1 h2).2⟩ (ih (i + 1) (by omega))
    ·simp only [if_neg h]; exact bi (fun h2 => h ((ct hia hib).1 h2).1) (Ev.now _)
  have := main a.length 0 (by omega); simpa using this
 ·simp only [if_neg (show ¬ (a.length : Int) = (b.length : Int) by omega)]; exact bi (fun h => hl (by rw [h])) (Ev.now _)
theorem mx {p q : S50} : p = q ↔ p.f0 = q.f0 ∧ p.f1 = q.f1 := by
 constructor
 ·intro h; rw [h]; exact ⟨rfl, rfl⟩
 ·obtain ⟨a, b⟩ := p; obtain ⟨c, d⟩ := q; rintro ⟨h1, h2⟩; have h1' : a = c := h1; have h2' : b = d := h2; rw [h1', h2']
open Classical in
theorem ja (p q : S50) (hp : p.f1.length ≤ 1099511627776) : Ev (fun k => dr.f k p.f0 p.f1 q.f0 q.f1) (decide (p = q)) := by
 simp only [dr.f]; by_cases h0 : p.f0 = q.f0
 ·simp only [if_pos h0]; refine Ev.bind (qk p.f1 q.f1 hp) ?_; exact cR ⟨fun h => mx.2 ⟨h0, h⟩, fun h => (mx.1 h).2⟩ (Ev.now (decide (p.f1 = q.f1)))
 ·simp only [if_neg h0]; exact bi (fun h => h0 (by rw [h])) (Ev.now _)
theorem nV (l : List S50) (j : Nat) (h : j < l.length) : bb l (j : Int) = l[j] := by
 unfold bb; simp [List.getD_eq_getElem?_getD, List.getElem?_eq_getElem h]
open Classical in
theorem mh (a b : List S50) (ha : a.length ≤ 1099511627776) (hs : ∀ p ∈ a, p.f1.length ≤ 1099511627776) : Ev (fun k => db.f k a b) (decide (a = b)) := by
 simp only [db.f]; by_cases hl : a.length = b.length
 ·simp only [if_pos (show (a.length : Int) = (b.length : Int) by omega)]; have main : ∀ (d i : Nat), i + d = a.length → Ev (fun k => db.l0 k b a (a.length : Int) (i : Int)) (decide (a.drop i = b.drop i)) := by
   intro d; induction d with
   | zero =>
    intro i hi; refine Ev.step (fun k => db.l0.eq_2 _ _ _ _ _) ?_; simp only [if_neg (show ¬ ((i : Int) < (a.length : Int)) by omega)]; rw [List.drop_eq_nil_of_le (by omega), List.drop_eq_nil_of_le (by omega)]; exact eA rfl (Ev.now _)
   | succ d ih =>
    intro i hi; have hia : i < a.length := by omega
    have hib : i < b.length := by omega
    refine Ev.step (fun k => db.l0.eq_2 _ _ _ _ _) ?_; simp only [if_pos (show ((i : Int) < (a.length : Int)) by omega), if_pos (show (0 : Int) ≤ (i : Int) by omega), if_pos (show ((i : Int) < (b.length : Int)) by omega), nV a i hia, nV b i hib, b9 i (by omega)]; refine Ev.bind (ja a[i] b[i] (hs _ (List.getElem_mem hia))) ?_; by_cases h : a[i] = b[i]
    ·rw [decide_eq_true h]; simp only [if_true]; exact cR ⟨fun h2 => (ct hia hib).2 ⟨h, h2⟩, fun h2 => ((ct hia hib).1 h2).2⟩ (ih (i + 1) (by omega))
    ·rw [decide_eq_false h]; simp only [if_neg (show ¬ (false = true) by decide)]; exact bi (fun h2 => h ((ct hia hib).1 h2).1) (Ev.now _)
  have := main a.length 0 (by omega); simpa using this
 ·simp only [if_neg (show ¬ (a.length : Int) = (b.length : Int) by omega)]; exact bi (fun h => hl (by rw [h])) (Ev.now _)
open Classical in
theorem iN (p q : S76) (hp : p.f2.length ≤ 1099511627776) (hs : ∀ x ∈ p.f2, x.f1.length ≤ 1099511627776) : Ev (fun k => dj.f k p.f0 p.f1 p.f2 q.f0 q.f1 q.f2) (decide (p = q)) := by
 simp only [dj.f, toList_inj]; by_cases h0 : p.f0 = q.f0
 ·simp only [if_pos h0]; by_cases h1 : p.f1 = q.f1
  ·simp only [if_pos h1]; refine Ev.bind (mh p.f2 q.f2 hp hs) ?_; exact cR ⟨fun h => kx.2 ⟨h0, h1, h⟩, fun h => (kx.1 h).2.2⟩ (Ev.now (decide (p.f2 = q.f2)))
  ·simp only [if_neg h1]; exact bi (fun h => h1 (by rw [h])) (Ev.now _)
 ·simp only [if_neg h0]; exact bi (fun h => h0 (by rw [h])) (Ev.now _)
open Classical in
theorem lm (a b : List S76) (ha : a.length ≤ 1099511627776) (hs : ∀ e ∈ a, e.f2.length ≤ 1099511627776 ∧ ∀ p ∈ e.f2, p.f1.length ≤ 1099511627776) : Ev (fun k => cI.f k a b) (decide (a = b)) := by
 simp only [cI.f]; by_cases hl : a.length = b.length
 ·simp only [if_pos (show (a.length : Int) = (b.length : Int) by omega)]; have main : ∀ (d i : Nat), i + d = a.length → Ev (fun k => cI.l0 k b a (a.length : Int) (i : Int)) (decide (a.drop i = b.drop i)) := by
   intro d; induction d with
   | zero =>
    intro i hi; refine Ev.step (fun k => cI.l0.eq_2 _ _ _ _ _) ?_; simp only [if_neg (show ¬ ((i : Int) < (a.length : Int)) by omega)]; rw [List.drop_eq_nil_of_le (by omega), List.drop_eq_nil_of_le (by omega)]; exact eA rfl (Ev.now _)
   | succ d ih =>
    intro i hi; have hia : i < a.length := by omega
    have hib : i < b.length := by omega
    have hx := hs _ (List.getElem_mem hia); refine Ev.step (fun k => cI.l0.eq_2 _ _ _ _ _) ?_; simp only [if_pos (show ((i : Int) < (a.length : Int)) by omega), if_pos (show (0 : Int) ≤ (i : Int) by omega), if_pos (show ((i : Int) < (b.length : Int)) by omega), iS a i hia, iS b i hib, b9 i (by omega)]; refine Ev.bind (iN a[i] b[i] hx.1 hx.2) ?_; by_cases h : a[i] = b[i]
    ·rw [decide_eq_true h]; simp only [if_true]; exact cR ⟨fun h2 => (ct hia hib).2 ⟨h, h2⟩, fun h2 => ((ct hia hib).1 h2).2⟩ (ih (i + 1) (by omega))
    ·rw [decide_eq_false h]; simp only [if_neg (show ¬ (false = true) by decide)]; exact bi (fun h2 => h ((ct hia hib).1 h2).1) (Ev.now _)
  have := main a.length 0 (by omega); simpa using this
 ·simp only [if_neg (show ¬ (a.length : Int) = (b.length : Int) by omega)]; exact bi (fun h => hl (by rw [h])) (Ev.now _)
open Classical in
theorem jV {F : List S92} {R : List S46} {E : List S76} (hz : fI F R E) (n : Int) (hf : fc F = true) (h8 : R.length ≤ 8) (hn : 0 ≤ n ∧ n ≤ 999999999) : ∀ (d i : Nat), i + d = R.length → (∀ (j : Nat) (h : j < R.length), j < i → m5 F R n j h) → Ev (fun k => aj.l0 k R (R.length : Int) (i : Int) F R E n) (decide (dp F R n i ∧ g5 F R E n)) := by
 have hr := hz.r; intro d; induction d with
 | zero =>
  intro i hi hprev; have hall : dp F R n 0 := fun j hj _ => hprev j hj (by omega)
  have hend : dp F R n i := fun j hj hij => by omega
  refine Ev.step (fun k => aj.l0.eq_2 _ _ _ _ _ _ _ _) ?_; simp only [if_neg (show ¬ ((i : Int) < (R.length : Int)) by omega)]; obtain ⟨L, h1, h2, h3⟩ := kz F hz.f R (l6 hall) h8; refine Ev.bind h1 ?_; refine Ev.bind (lm E L (by have := hz.e; omega) (fun e he => ⟨by have := (hz.es e he).1; omega, fun p hp => by have := (hz.es e he).2 p hp; omega⟩)) ?_; exact cR ⟨fun h => ⟨hend, hf, h8, hn, by rw [h]; exact h2⟩, fun h => lX h.2.2.2.2 h2⟩ (Ev.now (decide (E = L)))
 | succ d ih =>
  intro i hi hprev; have hil : i < R.length := by omega
  have hs := hz.rs _ (List.getElem_mem hil); have next : m5 F R n i hil → Ev (fun k => aj.l0 k R (R.length : Int) ((i + 1 : Nat) : Int) F R E n) (decide (dp F R n i ∧ g5 F R E n)) := fun hp =>
   cR ⟨fun h => ⟨(dW hil).2 ⟨hp, h.1⟩, h.2⟩, fun h => ⟨((dW hil).1 h.1).2, h.2⟩⟩ (ih (i + 1) (by omega) (fun j hj hji => by
    rcases Nat.lt_or_ge j i with hlt | hge
    ·exact hprev j hj hlt
    ·obtain rfl : j = i := by omega
     exact hp))
  have stop : ¬ m5 F R n i hil → Ev (fun _ : Nat => some false) (decide (dp F R n i ∧ g5 F R E n)) := fun hp => bi (fun h => hp ((dW hil).1 h.1).1) (Ev.now _)
  have doc : (0 ≤ R[i].f0 ∧ R[i].f0 ≤ wrap64 (n - 1)) → (∀ h0 : 0 < i, (R[i - 1]'(by omega)).f0 < R[i].f0) → Ev (fun k => (aV.f k F R[i].f1.f0 R[i].f1.f1).bind fun t => if t = true then (bX.f F R E n R[i].f1.f0).bind fun t2 => if t2 = (i : Int) then aj.l0 k R (R.length : Int) ((i + 1 : Nat) : Int) F R E n else some false else some false) (decide (dp F R n i ∧ g5 F R E n)) := by
   intro hin ho; refine Ev.bind (ll F hz.f hz.fs R[i].f1.f0 R[i].f1.f1 hs.1 hs.2.1 hs.2.2) ?_; cases hd : gF F R[i].f1.f0 R[i].f1.f1 with
   | false => simp only [if_neg (show ¬ (false = true) by decide)]; exact stop (fun h => by have := h.1; rw [hd] at this; cases this)
   | true =>
    simp only [if_true, bX.f, Option.bind_some]; by_cases hk : ck R[i].f1.f0 0 R = (i : Int)
    ·simp only [if_pos hk]; exact next ⟨hd, hk, hin, ho⟩
    ·simp only [if_neg hk]; exact stop (fun h => hk h.2.1)
  refine Ev.step (fun k => aj.l0.eq_2 _ _ _ _ _ _ _ _) ?_; simp only [if_pos (show ((i : Int) < (R.length : Int)) by omega), if_pos (show (0 : Int) ≤ (i : Int) by omega), gS R i hil, b9 i (by omega), dv, Option.bind_some]; by_cases hin : 0 ≤ R[i].f0 ∧ R[i].f0 ≤ wrap64 (n - 1)
  ·simp only [decide_eq_true hin, if_true]; by_cases h0 : 0 < i
   ·obtain ⟨m, rfl⟩ : ∃ m, i = m + 1 := ⟨i - 1, by omega⟩; simp only [if_pos (show ((m + 1 : Nat) : Int) > 0 by omega), wpred m (by omega), if_pos (show (0 : Int) ≤ (m : Int) by omega), if_pos (show ((m : Int) < (R.length : Int)) by omega), gS R m (by omega)]; by_cases ho : R[m].f0 ≥ R[m + 1].f0
    ·simp only [if_pos ho]; exact stop (fun h => by have h2 : R[m].f0 < R[m + 1].f0 := h.2.2.2 h0; omega)
    ·simp only [if_neg ho]; exact doc hin (fun _ => by show R[m].f0 < R[m + 1].f0; omega)
   ·simp only [if_neg (show ¬ ((i : Int) > 0) by omega)]; exact doc hin (fun h => absurd h h0)
  ·simp only [decide_eq_false hin, if_neg (show ¬ (false = true) by decide)]; exact stop (fun h => hin h.2.2.1)
open Classical in
theorem jW {F : List S92} {R : List S46} {E : List S76} (hz : fI F R E) (n : Int) : Ev (fun k => aj.f k F R E n) (ie F R E n) := by
 have hr := hz.r; simp only [aj.f, ie]; have stop : ¬ g5 F R E n → Ev (fun k => aj.j0 k true F R E n) (decide (dp F R n 0 ∧ g5 F R E n)) := by
  intro h; refine Ev.step (fun k => aj.j0.eq_2 _ _ _ _ _ _) ?_; simp only [if_true]; exact bi (fun h2 => h h2.2) (Ev.now _)
 refine Ev.bind (fV F (by have := hz.f; omega) hz.fs) ?_; cases hf : fc F with
 | false => simp only [if_neg (show ¬ (false = true) by decide)]; exact stop (fun h => by have := h.1; rw [hf] at this; cases this)
 | true =>
  simp only [if_true]; by_cases h8 : R.length ≤ 8
  ·simp only [if_neg (show ¬ ((R.length : Int) > 8) by omega), dv, Option.bind_some]; by_cases hn : 0 ≤ n ∧ n ≤ 999999999
   ·simp only [decide_eq_true hn, Bool.not_true]; refine Ev.step (fun k => aj.j0.eq_2 _ _ _ _ _ _) ?_; simp only [if_neg (show ¬ (false = true) by decide)]; exact jV hz n hf h8 hn R.length 0 (by omega) (fun j hj h => by omega)
   ·simp only [decide_eq_false hn, Bool.not_false]; exact stop (fun h => hn h.2.2.1)
  ·simp only [if_pos (show ((R.length : Int) > 8) by omega)]; exact stop (fun h => h8 h.2.1)
theorem jf {F : List S92} {R : List S46} {E : List S76} (hz : fI F R E) (n : Int) (key : ByteArray) : Ev (fun k => dh.f k F R E n key) (kc F R E n key) := by
 simp only [dh.f, bX.f, Option.bind_some]; refine Ev.bind (jW hz n) ?_; unfold kc
 by_cases hb : ie F R E n = true
 ·simp only [if_pos hb]; by_cases h0 : ck key 0 R < 0
  ·simp only [if_pos h0]; exact Ev.now _
  ·have hl := f7 key R 0; have hc := oD hz key (by omega); simp only [if_neg h0, if_pos (show 0 ≤ ck key 0 R by omega), if_pos (show ck key 0 R < (R.length : Int) by omega), bZ.f, Option.bind_some, List.length_nil, Nat.zero_add, List.nil_append, if_pos (show (ab R (ck key 0 R)).f1.f1.length < 4398046511104 by omega)]; exact Ev.now _
 ·simp only [if_neg hb]; exact Ev.now _
theorem nQ (R : List S46) (hR : R.length ≤ 1099511627776) (key : ByteArray) : Ev (fun k => bI.f k R key) (ck key 0 R) := by
 have main : ∀ (d i : Nat), i + d = R.length → Ev (fun k => bI.l0 k R key (i : Int)) (ck key i (R.drop i)) := by
  intro d; induction d with
  | zero =>
   intro i hi; refine Ev.step (fun k => bI.l0.eq_2 _ _ _ _) ?_; simp only [if_neg (show ¬ ((i : Int) < (R.length : Int)) by omega)]; rw [List.drop_eq_nil_of_le (by omega), ck]; exact Ev.now _
  | succ d ih =>
   intro i hi; have hil : i < R.length := by omega
   refine Ev.step (fun k => bI.l0.eq_2 _ _ _ _) ?_; rw [cZ R i hil, ck]; simp only [if_pos (show ((i : Int) < (R.length : Int)) by omega), if_pos (show (0 : Int) ≤ (i : Int) by omega), gS R i hil, b9 i (by omega), beq_iff_eq]; by_cases h : R[i].f1.f0.toList = key.toList
   ·simp only [if_pos h]; exact Ev.now _
   ·simp only [if_neg h]; exact ih (i + 1) (by omega)
 have := main R.length 0 (by omega); simpa [bI.f] using this
theorem dO (a b c : Int) : b8.f a b c = some (decide (b ≤ a ∧ a ≤ c)) := by
 unfold b8.f
 by_cases h : a ≥ b
 ·rw [if_pos h]; congr 1; exact decide_eq_decide.2 ⟨fun h2 => ⟨h, h2⟩, fun h2 => h2.2⟩
 ·rw [if_neg h]; congr 1; symm; exact decide_eq_false (fun h2 => h h2.1)
open Classical in
theorem ks (s : ByteArray) (hn : s.size < 4611686018427387904) : ∀ (d i : Nat), i + d = s.size → Ev (fun k => aJ.l0 k s (i : Int)) (decide (dB (ak s) i)) := by
 have hb := bT s; intro d; induction d with
 | zero =>
  intro i hi; refine Ev.step (fun k => aJ.l0.eq_2 _ _ _) ?_; simp only [if_neg (show ¬ ((i : Int) < (s.size : Int)) by omega), dO, Option.bind_some]; refine cN (iR (by omega)).symm ?_; refine gq fun _ => ?_
  congr 1; exact decide_eq_decide.2 (by omega)
 | succ d ih =>
  intro i hi; have hs := hY (l := ak s) (j := i) (by omega); refine Ev.step (fun k => aJ.l0.eq_2 _ _ _) ?_; simp only [if_pos (show ((i : Int) < (s.size : Int)) by omega), if_pos (show 0 ≤ (i : Int) by omega), b9 i (by omega), gJ s i (by omega)]; by_cases h1 : kM (ak s)[i]
  ·simp only [if_pos (show (ak s)[i] ≥ 97 from h1.1), if_pos h1.2]; exact cN (hs.trans ⟨fun h => h.2, fun h => ⟨.inl h1, h⟩⟩).symm (ih (i + 1) (by omega))
  ·have key : Ev (fun k => if (i : Int) = 0 then some false else if (ak s)[i] < 48 then some false else if (ak s)[i] > 57 then some false else aJ.l0 k s ((i + 1 : Nat) : Int)) (decide (dB (ak s) i)) := by
    by_cases h0 : (i : Int) = 0
    ·simp only [if_pos h0]; have : decide (dB (ak s) i) = false := decide_eq_false (fun h => by rcases (hs.1 h).1 with h2 | h2; exact h1 h2; omega); rw [this]; exact Ev.now _
    ·simp only [if_neg h0]; by_cases h2 : ls (ak s)[i]
     ·simp only [if_neg (show ¬ (ak s)[i] < 48 by have := h2.1; omega), if_neg (show ¬ (ak s)[i] > 57 by have := h2.2; omega)]; exact cN (hs.trans ⟨fun h => h.2, fun h => ⟨.inr ⟨by omega, h2⟩, h⟩⟩).symm (ih (i + 1) (by omega))
     ·have : decide (dB (ak s) i) = false := decide_eq_false (fun h => by rcases (hs.1 h).1 with h3 | h3; exact h1 h3; exact h2 h3.2); rw [this]; by_cases h3 : (ak s)[i] < 48
      ·simp only [if_pos h3]; exact Ev.now _
      ·simp only [if_neg h3, if_pos (show (ak s)[i] > 57 by unfold ls at h2; omega)]; exact Ev.now _
   by_cases h3 : (ak s)[i] ≥ 97
   ·simp only [if_pos h3, if_neg (show ¬ (ak s)[i] ≤ 122 by unfold kM at h1; omega)]; exact key
   ·simp only [if_neg h3]; exact key
theorem eT (s : ByteArray) (hn : s.size < 4611686018427387904) : Ev (fun k => aJ.f k s) (eN (ak s)) := ks s hn s.size 0 (by omega)
open Classical in
theorem kY (s : ByteArray) (hs : s.size < 4611686018427387904) : ∀ (d i : Nat), i + d = s.size → Ev (fun k => bk.l0 k s (i : Int)) (decide ((∀ c ∈ (ak s).drop i, qz c) ∧ (s.size : Int) ≤ 60)) := by
 have hlen := bT s; intro d; induction d with
 | zero =>
  intro i hi; refine Ev.step (fun k => bk.l0.eq_2 _ _ _) ?_; simp only [if_neg (show ¬ ((i : Int) < (s.size : Int)) by omega)]; refine cN ?_ (Ev.now _); rw [List.drop_eq_nil_of_le (by omega)]; exact ⟨fun h => ⟨fun c hc => by simp at hc, h⟩, fun h => h.2⟩
 | succ d ih =>
  intro i hi; refine Ev.step (fun k => bk.l0.eq_2 _ _ _) ?_; simp only [if_pos (show ((i : Int) < (s.size : Int)) by omega), if_pos (show 0 ≤ (i : Int) by omega), pn s i (by omega), dO, Option.bind_some, decide_eq_true_eq, b9 i (by omega)]; have e := List.drop_eq_getElem_cons (l := ak s) (i := i) (by omega); by_cases hw : 32 ≤ (ak s)[i] ∧ (ak s)[i] ≤ 126
  ·simp only [if_pos hw]; refine cN ?_ (ih (i + 1) (by omega)); rw [e]; constructor
   ·rintro ⟨h1, h2⟩; exact ⟨fun c hc => by rcases List.mem_cons.1 hc with h | h; exact h ▸ hw; exact h1 c h, h2⟩
   ·rintro ⟨h1, h2⟩; exact ⟨fun c hc => h1 c (List.mem_cons_of_mem _ hc), h2⟩
  ·simp only [if_neg hw]; refine cy (fun h => hw (h.1 _ ?_)) (Ev.now _); rw [e]; exact List.mem_cons_self ..
theorem gA (s : ByteArray) (hs : s.size < 4611686018427387904) : Ev (fun k => bk.f k s) (ey s 60) := by
 simp only [bk.f, ey]; exact kY s hs s.size 0 (by omega)
open Classical in
theorem kg (key : ByteArray) (l : List S86) (hk : key.size ≤ 1048576) (hn : l.length ≤ 1048576) (hs : ∀ x ∈ l, x.f0.size ≤ 1048576 ∧ x.f1.size ≤ 1048576) : ∀ (d i : Nat), i + d = l.length →
  Ev (fun k => aT.l0 k (i : Int) key l) (decide (fZ key l i)) := by
 intro d; induction d with
 | zero =>
  intro i hi; refine Ev.step (fun k => aT.l0.eq_2 _ _ _ _) ?_; simp only [if_neg (show ¬ ((i : Int) < (l.length : Int)) by omega)]; refine cN (iF (by omega)).symm ?_; refine Ev.bind (eT key (by omega)) ?_; cases hnm : eN (ak key) with
  | false => simp only [if_neg (show ¬ (false = true) by decide)]; exact cy (fun h => by cases h.1) (Ev.now _)
  | true =>
   simp only [if_true]; exact cN ⟨fun h => ⟨(by first | trivial | rfl), by omega⟩, fun h => by have := h.2; omega⟩ (Ev.now _)
 | succ d ih =>
  intro i hi; have hst := g9 (key := key) (l := l) (j := i) (by omega); have hsz := hs l[i] (List.getElem_mem _); have hnext := ih (i + 1) (by omega); refine Ev.step (fun k => aT.l0.eq_2 _ _ _ _) ?_; simp only [if_pos (show ((i : Int) < (l.length : Int)) by omega), if_pos (show 0 ≤ (i : Int) by omega), eE l i (by omega), b9 i (by omega)]; refine Ev.bind (eT l[i].f0 (by omega)) ?_; cases hnm : eN (ak l[i].f0) with
  | false => simp only [if_neg (show ¬ (false = true) by decide)]; exact cy (fun h => by have := (hst.1 h).1.1; rw [hnm] at this; cases this) (Ev.now _)
  | true =>
   simp only [if_true]; refine Ev.bind (gA l[i].f1 (by omega)) ?_; cases htx : ey l[i].f1 60 with
   | false => simp only [if_neg (show ¬ (false = true) by decide)]; exact cy (fun h => by have := (hst.1 h).1.2.1; rw [htx] at this; cases this) (Ev.now _)
   | true =>
    simp only [if_true]; by_cases h0 : (i : Int) > 0
    ·have he : wrap64 ((i : Int) - 1) = ((i - 1 : Nat) : Int) := by rw [bx (by omega) (by omega)]; omega
     simp only [if_pos h0, he, if_pos (show 0 ≤ ((i - 1 : Nat) : Int) by omega), if_pos (show ((i - 1 : Nat) : Int) < (l.length : Int) by omega), eE l (i - 1) (by omega)]; by_cases hl : px (l[i - 1]'(by omega)).f0 l[i].f0
     ·have hl2 : Op.bytesLess (l[i - 1]'(by omega)).f0.toList l[i].f0.toList = true := hl; simp only [hl2, if_true]; exact cN (hst.trans ⟨fun h => h.2, fun h => ⟨⟨hnm, htx, fun _ => hl⟩, h⟩⟩).symm hnext
     ·have hl2 : Op.bytesLess (l[i - 1]'(by omega)).f0.toList l[i].f0.toList = false := Bool.eq_false_iff.2 hl; simp only [hl2, if_neg (show ¬ (false = true) by decide)]; exact cy (fun h => hl ((hst.1 h).1.2.2 (by omega))) (Ev.now _)
    ·simp only [if_neg h0]; exact cN (hst.trans ⟨fun h => h.2, fun h => ⟨⟨hnm, htx, fun h1 => by omega⟩, h⟩⟩).symm hnext
theorem km (key : ByteArray) (l : List S86) (hk : key.size ≤ 1048576) (hn : l.length ≤ 1048576) (hs : ∀ x ∈ l, x.f0.size ≤ 1048576 ∧ x.f1.size ≤ 1048576) : Ev (fun k => aT.f k key l) (jB key l) := kg key l hk hn hs l.length 0 (by omega)
def isD (c : UInt8) : Prop := 48 ≤ c.toNat ∧ c.toNat ≤ 57
instance (c : UInt8) : Decidable (isD c) := by unfold isD; infer_instance
def kF (l : List UInt8) : Prop := l ≠ [] ∧ (∀ c ∈ l, isD c) ∧ (1 < l.length → l.head? ≠ some 48)
theorem pE {l : List UInt8} {i : Nat} (h : i < l.length) (hd : ¬ isD l[i]) : ¬ kF l := fun hc => hd (hc.2.1 _ (List.getElem_mem h))
def eB (acc : Nat) (l : List UInt8) : Nat := l.foldl (fun a c => a * 10 + (c.toNat - 48)) acc
theorem gC (a : List UInt8) (acc : Nat) (b : List UInt8) : eB acc (a ++ b) = eB (eB acc a) b := by unfold eB; rw [List.foldl_append]
theorem el (acc : Nat) (c : UInt8) (r : List UInt8) : eB acc (c :: r) = eB (acc * 10 + (c.toNat - 48)) r := by unfold eB; rw [List.foldl_cons]
theorem fH (acc : Nat) : eB acc [] = acc := rfl
theorem pz {l : List UInt8} {i : Nat} (h : i < l.length) : eB 0 (l.take (i + 1)) = eB 0 (l.take i) * 10 + (l[i].toNat - 48) := by
 rw [List.take_add_one, List.getElem?_eq_getElem h]; show eB 0 (l.take i ++ [l[i]]) = _
 rw [gC, el, fH]
theorem pb (s : ByteArray) (i : Nat) (h : i < s.data.toList.length) : bt s (i : Int) = ((s.data.toList[i]).toNat : Int) := by
 rw [gJ s i (by rw [bT]; exact h)]; unfold ak
 rw [List.getElem_map]
open Classical in
noncomputable def eI (s : ByteArray) : Int := if kF s.data.toList ∧ s.size ≤ 9 then (eB 0 s.data.toList : Int) else -1
theorem mF : ∀ (l : List UInt8) (acc : Nat), (∀ c ∈ l, isD c) → eB acc l < (acc + 1) * 10 ^ l.length
 | [], acc, _ => by rw [fH]; simp
 | c :: l, acc, h => by
  have hc := h c (by simp); unfold isD at hc
  have h1 := mF l (acc * 10 + (c.toNat - 48)) (fun x hx => h x (List.mem_cons_of_mem _ hx)); rw [el, List.length_cons, Nat.pow_succ, Nat.mul_comm (10 ^ l.length) 10, ← Nat.mul_assoc]; refine Nat.lt_of_lt_of_le h1 (Nat.mul_le_mul_right _ (by omega))
theorem mg (s : ByteArray) (hs : s.size ≤ 1099511627776) : ∀ (d i : Nat), i + d = s.size → i ≤ 9 → (∀ c ∈ s.data.toList.take i, isD c) →
  Ev (fun k => bo.l0 k s ((eB 0 (s.data.toList.take i) : Nat) : Int) (i : Int)) (eI s) := by
 have hlen := fv s; intro d; induction d with
 | zero =>
  intro i hi h9 hd; refine Ev.step (fun k => bo.l0.eq_2 _ _ _ _) ?_; have et : s.data.toList.take i = s.data.toList := List.take_of_length_le (by omega); rw [et] at hd ⊢; simp only [if_neg (show ¬ ((i : Int) < (s.size : Int)) by omega)]; by_cases h0 : s.size = 0
  ·have e0 : eI s = -1 := by unfold eI; rw [if_neg (fun hc => hc.1.1 (List.length_eq_zero_iff.1 (by omega)))]
   rw [e0]; simp only [if_pos (show (s.size : Int) = 0 by omega)]; exact Ev.now _
  ·simp only [if_neg (show ¬ (s.size : Int) = 0 by omega)]; have hne : s.data.toList ≠ [] := fun e => h0 (by rw [← hlen, e]; rfl)
   by_cases h1 : (s.size : Int) > 1
   ·have hb := pb s 0 (by omega); have hb0 : bt s 0 = ((s.data.toList[0]'(by omega)).toNat : Int) := hb; simp only [if_pos h1, if_pos (show 0 < (s.size : Int) by omega), hb0]; have hh : s.data.toList.head? = some (s.data.toList[0]'(by omega)) := by
     rw [List.head?_eq_getElem?, List.getElem?_eq_getElem]
    by_cases h48 : ((s.data.toList[0]'(by omega)).toNat : Int) = 48
    ·have e48 : s.data.toList[0]'(by omega) = 48 := UInt8.toNat_inj.1 (show _ = 48 by omega); have e0 : eI s = -1 := by unfold eI; rw [if_neg (fun hc => hc.1.2.2 (by omega) (by rw [hh, e48]))]
     rw [e0]; simp only [if_pos h48]; exact Ev.now _
    ·have e0 : eI s = ((eB 0 s.data.toList : Nat) : Int) := by unfold eI; rw [if_pos ⟨⟨hne, hd, fun _ he => by rw [hh] at he; exact h48 (by rw [Option.some.inj he]; rfl)⟩, by omega⟩]
     rw [e0]; simp only [if_neg h48]; exact Ev.now _
   ·have e0 : eI s = ((eB 0 s.data.toList : Nat) : Int) := by unfold eI; rw [if_pos ⟨⟨hne, hd, fun h => by omega⟩, by omega⟩]
    rw [e0]; simp only [if_neg h1]; exact Ev.now _
 | succ d ih =>
  intro i hi h9 hd; have hil : i < s.data.toList.length := by omega
  have hb := pb s i hil; refine Ev.step (fun k => bo.l0.eq_2 _ _ _ _) ?_; simp only [if_pos (show ((i : Int) < (s.size : Int)) by omega), if_pos (show 0 ≤ (i : Int) by omega), hb]; have hno : ∀ (h : ¬ isD s.data.toList[i]), eI s = -1 := fun h => by unfold eI; rw [if_neg (fun hc => pE hil h hc.1)]
  by_cases h1 : ((s.data.toList[i]).toNat : Int) < 48
  ·simp only [if_pos h1]; rw [hno (by unfold isD; omega)]; exact Ev.now _
  ·by_cases h2 : ((s.data.toList[i]).toNat : Int) > 57
   ·simp only [if_neg h1, if_pos h2]; rw [hno (by unfold isD; omega)]; exact Ev.now _
   ·by_cases h3 : (i : Int) ≥ 9
    ·simp only [if_neg h1, if_neg h2, if_pos h3]; have : eI s = -1 := by unfold eI; rw [if_neg (fun hc => by have := hc.2; omega)]
     rw [this]; exact Ev.now _
    ·have hlt := mF (s.data.toList.take i) 0 hd; have hl1 : (s.data.toList.take i).length = i := by rw [List.length_take]; omega
     rw [hl1] at hlt; have hp : 10 ^ i ≤ 10 ^ 9 := Nat.pow_le_pow_right (by decide) (by omega); have e9 : (10 : Nat) ^ 9 = 1000000000 := by decide
     have hstep := pz hil; have ew : wrap64 (wrap64 (((eB 0 (s.data.toList.take i) : Nat) : Int) * 10) + ((((s.data.toList[i]).toNat : Int) - 48) % 256)) = ((eB 0 (s.data.toList.take (i + 1)) : Nat) : Int) := by
      rw [hstep, bx (x := ((eB 0 (s.data.toList.take i) : Nat) : Int) * 10) (by omega) (by omega), bx (by omega) (by omega)]; omega
     simp only [if_neg h1, if_neg h2, if_neg h3, ew, b9 i (by omega)]; refine ih (i + 1) (by omega) (by omega) (fun c hc => ?_); rw [List.take_add_one, List.getElem?_eq_getElem hil] at hc; rcases List.mem_append.1 hc with h | h
     ·exact hd c h
     ·have : c = s.data.toList[i] := by simpa using h
      rw [this]; unfold isD; omega
theorem fO (s : ByteArray) (hs : s.size ≤ 1099511627776) : Ev (fun k => bo.f k s) (eI s) := by
 have := mg s hs s.size 0 (by omega) (by omega) (fun c hc => by simp at hc); simpa [bo.f, fH] using this
theorem mB {n : Int} (h : 0 ≤ n) : Lib.itoa n = Lib.decDigits n.toNat := by unfold Lib.itoa; rw [if_neg (by omega)]
theorem gP (v : Nat) (h : v < 10) : (UInt8.ofNat (48 + v)).toNat = 48 + v := by rw [UInt8.toNat_ofNat']; exact Nat.mod_eq_of_lt (by omega)
theorem j5 (u : Nat) : ∀ c ∈ Lib.decDigits u, isD c := by
 induction u using Nat.strongRecOn with
 | _ u ih =>
  intro c hc; unfold isD
  by_cases h : u < 10
  ·rw [Lib.decDigits, dif_pos h, List.mem_singleton] at hc; rw [hc, gP u h]; omega
  ·rw [Lib.decDigits, dif_neg h] at hc; rcases List.mem_append.1 hc with h1 | h1
   ·exact ih (u / 10) (by omega) c h1
   ·rw [List.mem_singleton] at h1; rw [h1, gP (u % 10) (by omega)]; omega
theorem pL (u : Nat) (t : List UInt8) : Lib.decDigits u ≠ 45 :: t := by
 intro h; have := j5 u 45 (by rw [h]; simp); exact absurd this (by decide)
theorem kW : ∀ (k u : Nat), u < 10 ^ (k + 1) → Lib.nDigits u ≤ k + 1
 | 0, u, h => by rw [Lib.nDigits_small (by simpa using h)]; exact Nat.le_refl _
 | k + 1, u, h => by
  by_cases h1 : u < 10
  ·rw [Lib.nDigits_small h1]; omega
  ·rw [Lib.nDigits_big h1]; have := kW k (u / 10) (by rw [Nat.pow_succ] at h; omega); omega
theorem ji (u : Nat) : Lib.decDigits u ≠ [] := by
 intro h; have h1 := Lib.decDigits_length u; have h2 := Lib.nDigits_pos u; rw [h] at h1; simp at h1; omega
theorem rz (u : Nat) : 1 ≤ u → ∀ c r, Lib.decDigits u = c :: r → 49 ≤ c.toNat := by
 induction u using Nat.strongRecOn with
 | _ u ih =>
  intro hu c r he; by_cases h : u < 10
  ·rw [Lib.decDigits, dif_pos h] at he; have := (List.cons.inj he).1; rw [← this, gP u h]; omega
  ·rw [Lib.decDigits, dif_neg h] at he; obtain ⟨c', r', e'⟩ : ∃ c' r', Lib.decDigits (u / 10) = c' :: r' := by
    cases hd : Lib.decDigits (u / 10) with
    | nil => exact absurd hd (ji _)
    | cons c' r' => exact ⟨c', r', rfl⟩
   have := ih (u / 10) (by omega) (by omega) c' r' e'; rw [e', List.cons_append] at he; rw [← (List.cons.inj he).1]; exact this
theorem qw (u : Nat) : kF (Lib.decDigits u) := by
 refine ⟨ji u, j5 u, fun hl => ?_⟩; intro he; have hu : 1 ≤ u := by
  rcases Nat.lt_or_ge u 1 with h | h
  ·obtain rfl : u = 0 := by omega
   rw [Lib.decDigits, dif_pos (by omega)] at hl; simp at hl
  ·exact h
 cases hd : Lib.decDigits u with
 | nil => exact ji u hd
 | cons c r =>
  have := rz u hu c r hd; rw [hd] at he; simp at he
  rw [he] at this; exact absurd this (by decide)
theorem mw : ∀ (l : List UInt8) (acc : Nat), acc ≤ eB acc l
 | [], _ => Nat.le_refl _
 | c :: l, acc => by
  have := mw l (acc * 10 + (c.toNat - 48)); rw [el]; omega
theorem k5 : ∀ (n : Nat) (l : List UInt8), l.length = n → kF l → Lib.decDigits (eB 0 l) = l
 | 0, l, hn, h => absurd (List.length_eq_zero_iff.1 hn) h.1
 | n + 1, l, hn, h => by
  obtain ⟨a, c, rfl⟩ : ∃ a c, l = a ++ [c] := ⟨l.dropLast, l.getLast h.1, (List.dropLast_concat_getLast h.1).symm⟩; have hc := h.2.1 c (by simp); unfold isD at hc
  have hcc : UInt8.ofNat (48 + (c.toNat - 48)) = c := UInt8.toNat_inj.1 (by rw [gP _ (by omega)]; omega); have ev : eB 0 (a ++ [c]) = eB 0 a * 10 + (c.toNat - 48) := by rw [gC, el, fH]
  by_cases ha : a = []
  ·subst ha; rw [ev, fH, Nat.zero_mul, Nat.zero_add, Lib.decDigits, dif_pos (by omega), hcc]; rfl
  ·obtain ⟨x, r, rfl⟩ : ∃ x r, a = x :: r := by
    cases a with
    | nil => exact absurd rfl ha
    | cons x r => exact ⟨x, r, rfl⟩
   have hx := h.2.1 x (by simp); unfold isD at hx
   have hx48 : x ≠ 48 := fun e => h.2.2 (by simp) (by simp [e])
   have hx49 : 49 ≤ x.toNat := by
    rcases Nat.lt_or_ge x.toNat 49 with h1 | h1
    ·exact absurd (UInt8.toNat_inj.1 (show x.toNat = (48 : UInt8).toNat by show _ = 48; omega)) hx48
    ·exact h1
   have hge := mw r (0 * 10 + (x.toNat - 48)); have hv : 1 ≤ eB 0 (x :: r) := by rw [el]; omega
   have hcan : kF (x :: r) := ⟨by simp, fun y hy => h.2.1 y (List.mem_append_left _ hy), fun _ => by simpa using hx48⟩; have ih := k5 n (x :: r) (by simp at hn ⊢; omega) hcan; rw [ev, Lib.decDigits, dif_neg (by omega), show (eB 0 (x :: r) * 10 + (c.toNat - 48)) / 10 = eB 0 (x :: r) by omega, show (eB 0 (x :: r) * 10 + (c.toNat - 48)) % 10 = c.toNat - 48 by omega, ih, hcc]
theorem ms (u : Nat) : eB 0 (Lib.decDigits u) = u := by
 induction u using Nat.strongRecOn with
 | _ u ih =>
  by_cases h : u < 10
  ·rw [Lib.decDigits, dif_pos h, el, fH, gP u h]; omega
  ·rw [Lib.decDigits, dif_neg h, gC, ih (u / 10) (by omega), el, fH, gP (u % 10) (by omega)]; omega
theorem kK {s : ByteArray} {u : Nat} : eI s = (u : Int) ↔ u ≤ 999999999 ∧ Lib.decDigits u = s.data.toList := by
 constructor
 ·intro h; unfold eI at h
  split at h
  ·rename_i hc
   have hu : eB 0 s.data.toList = u := by omega
   have hl := mF s.data.toList 0 hc.1.2.1; have hp : 10 ^ s.data.toList.length ≤ 10 ^ 9 := Nat.pow_le_pow_right (by decide) hc.2; have e9 : (10 : Nat) ^ 9 = 1000000000 := by decide
   refine ⟨by omega, ?_⟩; rw [← hu]; exact k5 _ _ rfl hc.1
  ·omega
 ·rintro ⟨h1, h2⟩; have hs : s.size ≤ 9 := by
   have h3 := kW 8 u (by omega); rw [← Lib.decDigits_length, h2] at h3; exact h3
  have hcan := qw u; rw [h2] at hcan; unfold eI
  rw [if_pos ⟨hcan, hs⟩, ← h2, ms]
theorem kX (s : ByteArray) : eI s = -1 ∨ ∃ u : Nat, u ≤ 999999999 ∧ eI s = (u : Int) ∧ Lib.decDigits u = s.data.toList := by
 by_cases h : ∃ u : Nat, eI s = (u : Int)
 ·obtain ⟨u, hu⟩ := h; have := kK.1 hu; exact Or.inr ⟨u, this.1, hu, this.2⟩
 ·refine Or.inl ?_; unfold eI
  split
  ·rename_i hc
   exact absurd ⟨_, show eI s = ((eB 0 s.data.toList : Nat) : Int) by unfold eI; rw [if_pos hc]⟩ h
  ·rfl
theorem mt (s : ByteArray) : 0 < eI s ↔ ∃ u : Nat, 1 ≤ u ∧ u ≤ 999999999 ∧ Lib.decDigits u = s.data.toList := by
 constructor
 ·intro h; rcases kX s with h1 | ⟨u, h1, h2, h3⟩
  ·omega
  ·exact ⟨u, by omega, h1, h3⟩
 ·rintro ⟨u, h0, h1, h2⟩; have := kK.2 (show u ≤ 999999999 ∧ Lib.decDigits u = s.data.toList from ⟨h1, h2⟩); omega
theorem mi {n : Int} (h : n < 0) : Lib.itoa n = 45 :: Lib.decDigits n.natAbs := by unfold Lib.itoa; rw [if_pos h]
theorem ma : ∀ (l : List UInt8) (acc : Nat), (∀ c ∈ l, isD c) → eB acc l < 1844674407370955162 → Lib.parseUint10 acc l = .ok (eB acc l)
 | [], _, _, _ => rfl
 | c :: r, acc, h, hv => by
  have hc := h c (by simp); unfold isD at hc
  rw [el] at hv; have hg := mw r (acc * 10 + (c.toNat - 48)); rw [Lib.parseUint10, if_pos hc, if_neg (by omega), if_neg (by omega), ma r _ (fun x hx => h x (List.mem_cons_of_mem _ hx)) hv, el]
theorem o3 (u : Nat) (h : u ≤ 999999999999) : Lib.parseMag (Lib.decDigits u) = .ok u := by
 unfold Lib.parseMag
 rw [if_neg (ji u), ma _ 0 (j5 u) (by rw [ms]; omega), ms]
theorem qV (u : Nat) (h : u ≤ 999999999999) : Lib.atoiAll (Lib.decDigits u) = .ok (u : Int) := by
 obtain ⟨c, r, e⟩ : ∃ c r, Lib.decDigits u = c :: r := by
  cases hd : Lib.decDigits u with
  | nil => exact absurd hd (ji _)
  | cons c r => exact ⟨c, r, rfl⟩
 have hc := j5 u c (by rw [e]; simp); unfold isD at hc
 have hm := o3 u h; rw [e] at hm ⊢; rw [Lib.atoiAll_plain c r (by omega) (by omega), hm]; simp only [Lib.signless, if_neg (show ¬ 9223372036854775808 ≤ u by omega)]
theorem rq (u : Nat) (h : u ≤ 999999999999) : Lib.atoiAll (45 :: Lib.decDigits u) = .ok (-(u : Int)) := by
 rw [Lib.atoiAll_minus, o3 u h]; simp only [Lib.signed, if_neg (show ¬ 9223372036854775808 < u by omega)]
theorem qy (n : Int) (h0 : -999999999999 ≤ n) (h1 : n ≤ 999999999999) : Lib.atoiAll (Lib.itoa n) = .ok n := by
 unfold Lib.itoa
 by_cases h : n < 0
 ·rw [if_pos h, rq _ (by omega)]; congr 1; omega
 ·rw [if_neg h, qV _ (by omega)]; congr 1; omega
theorem np {s : ByteArray} {n : Int} : iu s = (n, true) ↔ -999999999 ≤ n ∧ n ≤ 999999999 ∧ Lib.itoa n = s.data.toList := by
 constructor
 ·intro h; unfold iu at h
  split at h
  ·split at h
   ·rename_i hc; rw [← (Prod.mk.inj h).1]; exact hc
   ·cases (Prod.mk.inj h).2
  ·cases (Prod.mk.inj h).2
 ·rintro ⟨h0, h1, h2⟩; unfold iu
  rw [← h2, qy n (by omega) (by omega)]; simp only [if_pos (show -999999999 ≤ n ∧ n ≤ 999999999 ∧ True from ⟨h0, h1, trivial⟩)]
theorem jE (s : ByteArray) : (iu s).2 = true ↔ ∃ n : Int, -999999999 ≤ n ∧ n ≤ 999999999 ∧ Lib.itoa n = s.data.toList := by
 constructor
 ·intro h; exact ⟨(iu s).1, np.1 (by rw [← h])⟩
 ·rintro ⟨n, h⟩; rw [np.2 h]
theorem oE (s r : ByteArray) (h : s.data.toList = 45 :: r.data.toList) : (iu s).2 = true ↔ 0 < eI r := by
 rw [jE, mt]; constructor
 ·rintro ⟨n, h0, h1, h2⟩; rw [h] at h2; by_cases hn : n < 0
  ·rw [mi hn] at h2; exact ⟨n.natAbs, by omega, by omega, (List.cons.inj h2).2⟩
  ·rw [mB (by omega)] at h2; exact absurd h2 (pL _ _)
 ·rintro ⟨u, h0, h1, h2⟩; refine ⟨-(u : Int), by omega, by omega, ?_⟩; rw [mi (by omega), h, ← h2]; congr 2; omega
theorem nJ (s : ByteArray) : 0 ≤ eI s ↔ ∃ u : Nat, u ≤ 999999999 ∧ Lib.decDigits u = s.data.toList := by
 constructor
 ·intro h; rcases kX s with h1 | ⟨u, h1, h2, h3⟩
  ·omega
  ·exact ⟨u, h1, h3⟩
 ·rintro ⟨u, h1, h2⟩; have := kK.2 (show u ≤ 999999999 ∧ Lib.decDigits u = s.data.toList from ⟨h1, h2⟩); omega
theorem oT (s : ByteArray) (h : ∀ t, s.data.toList = 45 :: t → t = []) : (iu s).2 = true ↔ 0 ≤ eI s := by
 rw [jE, nJ]; constructor
 ·rintro ⟨n, h0, h1, h2⟩; by_cases hn : n < 0
  ·rw [mi hn] at h2; exact absurd (h _ h2.symm) (ji _)
  ·rw [mB (by omega)] at h2; exact ⟨n.toNat, by omega, h2⟩
 ·rintro ⟨u, h1, h2⟩; exact ⟨(u : Int), by omega, by omega, by rw [mB (by omega)]; exact h2⟩
theorem ju (s : ByteArray) (hs : s.size ≤ 1048576) : ∃ v, Ev (fun k => be.f k s) (v, (iu s).2) := by
 have hlen := fv s; simp only [be.f]; have pos : (∀ t, s.data.toList = 45 :: t → t = []) → ∃ v, Ev (fun k => be.j0 k s false) (v, (iu s).2) := by
  intro h; refine ⟨eI s, Ev.step (fun k => be.j0.eq_2 _ _ _) ?_⟩; simp only [if_neg (show ¬ (false = true) by decide)]; refine Ev.bind (fO s (by omega)) ?_; have e : decide (eI s ≥ 0) = (iu s).2 := by
   rw [Bool.eq_iff_iff, decide_eq_true_eq]; exact (oT s h).symm
  rw [e]; exact Ev.now _
 by_cases h1 : (s.size : Int) > 1
 ·have hb : bt s 0 = ((s.data.toList[0]'(by omega)).toNat : Int) := pb s 0 (by omega); simp only [if_pos h1, if_pos (show 0 < (s.size : Int) by omega), hb]; obtain ⟨x, r, hx⟩ : ∃ x r, s.data.toList = x :: r := by
   cases hd : s.data.toList with
   | nil => rw [hd] at hlen; simp at hlen; omega
   | cons x r => exact ⟨x, r, rfl⟩
  have h0 : s.data.toList[0]'(by omega) = x := by simp [hx]
  rw [h0]; by_cases h45 : (x.toNat : Int) = 45
  ·have e45 : ((x.toNat : Int) == 45) = true := by simpa using h45
   have ex : x = 45 := UInt8.toNat_inj.1 (show _ = 45 by omega); subst ex; have hr : (s.extract 1 s.size).data.toList = r := by
    rw [Lib.extract_data, hx, List.drop_succ_cons, List.drop_zero]; apply List.take_of_length_le
    rw [hx, List.length_cons] at hlen; omega
   have hz : (s.extract 1 s.size).size ≤ 1048576 := by rw [ByteArray.size_extract]; omega
   rw [e45]; refine ⟨wrap64 (-eI (s.extract 1 s.size)), Ev.step (fun k => be.j0.eq_2 _ _ _) ?_⟩; simp only [if_true, if_pos (show 1 ≤ (s.size : Int) by omega)]; refine Ev.bind (fO _ (by omega)) ?_; have e : decide (eI (s.extract 1 s.size) > 0) = (iu s).2 := by
    rw [Bool.eq_iff_iff, decide_eq_true_eq]; exact (oE s (s.extract 1 s.size) (by rw [hr, hx])).symm
   rw [e]; exact Ev.now _
  ·have e45 : ((x.toNat : Int) == 45) = false := by simpa using h45
   rw [e45]; exact pos (fun t ht => absurd (show (x.toNat : Int) = 45 by rw [hx] at ht; rw [(List.cons.inj ht).1]; rfl) h45)
 ·simp only [if_neg h1]; exact pos (fun t ht => by
   rw [ht, List.length_cons] at hlen; exact List.length_eq_zero_iff.1 (by omega))
def cutT (c : UInt8) (n : Nat) (s : ByteArray) : List ByteArray := (eu c n [] s.data.toList).map mkT
theorem jh (c : UInt8) : ∀ (l : List UInt8) (n : Nat) (acc : List UInt8), l.count c ≤ n → eu c n acc l = eu c (l.count c) acc l
 | [], n, acc, _ => by simp [eu]
 | x :: xs, n, acc, h => by
  by_cases hx : x = c
  ·subst hx; rw [List.count_cons_self] at h ⊢; obtain ⟨m, rfl⟩ : ∃ m, n = m + 1 := ⟨n - 1, by omega⟩; rw [eu, eu, if_pos rfl, if_pos rfl, jh x xs m [] (by omega)]
  ·have e : (x :: xs).count c = xs.count c := List.count_cons_of_ne (by simpa using hx); rw [e] at h ⊢; have h1 := jh c xs n (acc ++ [x]) h; have e0 : ∀ k, eu c k acc (x :: xs) = eu c k (acc ++ [x]) xs := by
    intro k; have := iG c [x] k acc xs (by simpa using fun h => hx h.symm); exact this
   rw [e0, e0, h1]
theorem rJ (c : UInt8) (s : ByteArray) : cutT c (s.size + 1) s = ec c s := by
 unfold cutT ec
 have h : s.data.toList.count c ≤ s.data.toList.length := List.count_le_length; rw [fv] at h; rw [jh c _ (s.size + 1) [] (by omega)]
def gE (s : ByteArray) : List ByteArray → List ByteArray
 | [] => [s]
 | x :: xs => if Op.bytesLess x.toList s.toList = true then x :: gE s xs else if x = s then x :: xs else s :: x :: xs
def j6 (acc : List ByteArray) (l : List ByteArray) : List ByteArray := l.foldl (fun a s => gE s a) acc
theorem mu (acc : List ByteArray) (s : ByteArray) (l : List ByteArray) : j6 acc (s :: l) = j6 (gE s acc) l := rfl
theorem jx (s : ByteArray) : ∀ l : List ByteArray, (gE s l).length ≤ l.length + 1
 | [] => by simp [gE]
 | x :: xs => by
  have := jx s xs; unfold gE
  split
  ·simp only [List.length_cons]; omega
  ·split <;> simp
theorem lQ (s : ByteArray) (l : List ByteArray) (hn : l.length ≤ 1099511627776) : ∀ (d i : Nat), i + d = l.length → Ev (fun k => bq.l0 k l s (i : Int)) (l.take i ++ gE s (l.drop i)) := by
 intro d; induction d with
 | zero =>
  intro i hi; refine Ev.step (fun k => bq.l0.eq_2 _ _ _ _) ?_; have e1 : l.take i = l := List.take_of_length_le (by omega); have e2 : l.drop i = [] := List.drop_eq_nil_of_le (by omega); simp only [if_neg (show ¬ ((i : Int) < (l.length : Int)) by omega), Option.bind_some, if_pos (show 0 ≤ (i : Int) by omega), if_pos (show (i : Int) ≤ (l.length : Int) by omega), bJ, e1, e2, gE, List.nil_append, List.length_nil, Nat.zero_add, if_pos (show l.length < 8796093022208 by omega), List.length_cons, List.length_append, Nat.add_zero, if_pos (show l.length + 1 < 8796093022208 by omega), List.append_nil]; exact Ev.now _
 | succ d ih =>
  intro i hi; have hil : i < l.length := by omega
  have ed : l.drop i = l[i] :: l.drop (i + 1) := cZ l i hil; refine Ev.step (fun k => bq.l0.eq_2 _ _ _ _) ?_; simp only [if_pos (show ((i : Int) < (l.length : Int)) by omega), if_pos (show 0 ≤ (i : Int) by omega), iQ _ l i hil, toList_inj, b9 i (by omega)]; by_cases h1 : Op.bytesLess l[i].toList s.toList = true
  ·simp only [if_pos h1]; have e : l.take i ++ gE s (l.drop i) = l.take (i + 1) ++ gE s (l.drop (i + 1)) := by
    rw [ed, gE, if_pos h1, List.take_add_one, List.getElem?_eq_getElem hil, List.append_assoc]; rfl
   rw [e]; exact ih (i + 1) (by omega)
  ·simp only [if_neg h1]; by_cases h2 : l[i] = s
   ·simp only [if_pos h2]; have e : l.take i ++ gE s (l.drop i) = l := by rw [ed, gE, if_neg h1, if_pos h2, ← ed, List.take_append_drop]
    rw [e]; exact Ev.now _
   ·have lt : (l.take i).length = i := by rw [List.length_take]; omega
    have ld : (l.drop i).length = l.length - i := List.length_drop; simp only [if_neg h2, Option.bind_some, if_pos (show (i : Int) ≤ (l.length : Int) by omega), bJ, List.nil_append, List.length_nil, Nat.zero_add, lt, if_pos (show i < 8796093022208 by omega), List.length_cons, List.length_append, Nat.add_zero, if_pos (show i + 1 < 8796093022208 by omega), ld, if_pos (show i + 1 + (l.length - i) < 8796093022208 by omega)]; have e : l.take i ++ gE s (l.drop i) = l.take i ++ [s] ++ l.drop i := by rw [ed, gE, if_neg h1, if_neg h2, List.append_assoc]; rfl
    rw [e]; exact Ev.now _
theorem lJ (s : ByteArray) (l : List ByteArray) (hn : l.length ≤ 1099511627776) : Ev (fun k => bq.f k l s) (gE s l) := by
 have := lQ s l hn l.length 0 (by omega); simpa [bq.f] using this
open Classical in
theorem kJ (L : List ByteArray) (hL : L.length ≤ 1048577) (hx : ∀ x ∈ L, x.size ≤ 1048576) : ∀ (d i : Nat) (acc : List ByteArray), i + d = L.length → acc.length ≤ i →
  Ev (fun k => bv.l0 k acc L (i : Int)) (if gf (L.drop i) then (j6 acc (L.drop i), decide (L.length ≤ 4)) else ([], false)) := by
 intro d; induction d with
 | zero =>
  intro i acc hi ha; refine Ev.step (fun k => bv.l0.eq_2 _ _ _ _) ?_; simp only [if_neg (show ¬ ((i : Int) < (L.length : Int)) by omega)]; rw [List.drop_eq_nil_of_le (by omega), if_pos (show gf [] from fun x hx => by simp at hx)]; have e : decide ((L.length : Int) ≤ 4) = decide (L.length ≤ 4) := decide_eq_decide.2 ⟨fun h => by omega, fun h => by omega⟩; rw [e]; exact Ev.now _
 | succ d ih =>
  intro i acc hi ha; have hil : i < L.length := by omega
  have hxi := hx L[i] (List.getElem_mem _); have hl2 := jx L[i] acc; refine Ev.step (fun k => bv.l0.eq_2 _ _ _ _) ?_; simp only [if_pos (show ((i : Int) < (L.length : Int)) by omega), if_pos (show 0 ≤ (i : Int) by omega), iQ _ L i hil, b9 i (by omega)]; refine Ev.bind (eT L[i] (by omega)) ?_; rw [cZ L i hil]; cases hnm : eN (ak L[i]) with
  | false =>
   simp only [if_neg (show ¬ (false = true) by decide)]; rw [if_neg (fun h => by have := (eO.1 h).1; rw [hnm] at this; cases this)]; exact Ev.now _
  | true =>
   simp only [if_true]; refine Ev.bind (lJ L[i] acc (by omega)) ?_; have h := ih (i + 1) (gE L[i] acc) (by omega) (by omega); rw [mu]; by_cases hp : gf (L.drop (i + 1))
   ·rw [if_pos hp] at h; rw [if_pos (eO.2 ⟨hnm, hp⟩)]; exact h
   ·rw [if_neg hp] at h; rw [if_neg (fun h2 => hp (eO.1 h2).2)]; exact h
open Classical in
noncomputable def iE (s : ByteArray) : List ByteArray × Bool := if gf (ec 44 s) then (j6 [] (ec 44 s), decide ((ec 44 s).length ≤ 4)) else ([], false)
theorem jw (s : ByteArray) (a b : Nat) : s.extract a b = mkT ((s.data.toList.drop a).take (b - a)) := by
 rw [← m8 (s.extract a b), Lib.extract_data]
theorem l8 (l : List UInt8) {f i : Nat} (hf : f ≤ i) : (l.drop f).take (i - f) ++ l.drop i = l.drop f := by
 have := List.take_append_drop (i - f) (l.drop f); rw [List.drop_drop, show f + (i - f) = i by omega] at this; exact this
theorem pY {l : List UInt8} {f i : Nat} (hf : f ≤ i) (hi : i < l.length) : (l.drop f).take (i + 1 - f) = (l.drop f).take (i - f) ++ [l[i]] := by
 have e : i + 1 - f = (i - f) + 1 := by omega
 rw [e, List.take_add_one, List.getElem?_drop, show f + (i - f) = i by omega, List.getElem?_eq_getElem hi]; rfl
theorem pV (a b : UInt8) : ((a.toNat : Int) = (b.toNat : Int)) ↔ a = b := ⟨fun h => UInt8.toNat_inj.1 (by omega), fun h => by rw [h]⟩
theorem qB (c : UInt8) (s : ByteArray) (hs : s.size ≤ 1099511627776) (most : Nat) : ∀ (d i f n : Nat) (out : List ByteArray), i + d = s.size → f ≤ i → out.length + n = most → out.length ≤ i →
  Ev (fun k => bl.l0 k s (c.toNat : Int) (most : Int) out (f : Int) (i : Int)) (out ++ (eu c n ((s.data.toList.drop f).take (i - f)) (s.data.toList.drop i)).map mkT) := by
 have hlen := fv s; have fin : ∀ (i f : Nat) (out : List ByteArray), f ≤ i → i ≤ s.size → out.length ≤ i → ∀ k, bl.j1 (k + 1) s (c.toNat : Int) (most : Int) out (f : Int) (i : Int) false = some (out ++ [mkT (s.data.toList.drop f)]) := by
  intro i f out hf hi ho k; have e := jw s f s.size; rw [List.take_of_length_le (by rw [List.length_drop]; omega)] at e; rw [bl.j1.eq_2]; simp only [if_neg (show ¬ (false = true) by decide), if_pos (show 0 ≤ (f : Int) by omega), if_pos (show (f : Int) ≤ (s.size : Int) by omega), if_pos (show out.length < 8796093022208 by omega), bJ, e]
 have finE : ∀ (i f : Nat) (out : List ByteArray), f ≤ i → i ≤ s.size → out.length ≤ i → Ev (fun k => bl.j1 k s (c.toNat : Int) (most : Int) out (f : Int) (i : Int) false) (out ++ [mkT (s.data.toList.drop f)]) := by
  intro i f out hf hi ho; refine ⟨1, fun k hk => ?_⟩; obtain ⟨k, rfl⟩ : ∃ m, k = m + 1 := ⟨k - 1, by omega⟩; exact fin i f out hf hi ho k
 intro d; induction d with
 | zero =>
  intro i f n out hi hf hn ho; refine Ev.step (fun k => bl.l0.eq_2 _ _ _ _ _ _ _) ?_; simp only [if_neg (show ¬ ((i : Int) < (s.size : Int)) by omega)]; have e := l8 s.data.toList hf; have e0 : s.data.toList.drop i = [] := List.drop_eq_nil_of_le (by omega); rw [e0, List.append_nil] at e; have hc : eu c n ((s.data.toList.drop f).take (i - f)) (s.data.toList.drop i) = [s.data.toList.drop f] := by
   rw [e0, e]; cases n <;> rfl
  rw [hc]; exact finE i f out hf (by omega) ho
 | succ d ih =>
  intro i f n out hi hf hn ho; refine Ev.step (fun k => bl.l0.eq_2 _ _ _ _ _ _ _) ?_; simp only [if_pos (show ((i : Int) < (s.size : Int)) by omega)]; cases n with
  | zero =>
   rw [decide_eq_false (show ¬ (out.length : Int) < (most : Int) by omega), gR, l8 _ hf]; exact finE i f out hf (by omega) ho
  | succ n =>
   rw [decide_eq_true (show (out.length : Int) < (most : Int) by omega)]; refine Ev.step (fun k => bl.j1.eq_2 _ _ _ _ _ _ _ _) ?_; have hil : i < s.data.toList.length := by omega
   have ed : s.data.toList.drop i = s.data.toList[i] :: s.data.toList.drop (i + 1) := List.drop_eq_getElem_cons hil; rw [ed]; simp only [if_true, if_pos (show 0 ≤ (i : Int) by omega), if_pos (show ((i : Int) < (s.size : Int)) by omega), pb s i hil, pV, b9 i (by omega)]; by_cases hb : s.data.toList[i] = c
   ·have e := jw s f i; rw [eu, if_pos hb]; simp only [if_pos hb, if_pos (show 0 ≤ (f : Int) by omega), if_pos (show (f : Int) ≤ (i : Int) by omega), if_pos (show (i : Int) ≤ (s.size : Int) by omega), if_pos (show out.length < 8796093022208 by omega), bJ, e]; have h := ih (i + 1) (i + 1) n (out ++ [mkT ((s.data.toList.drop f).take (i - f))]) (by omega) (Nat.le_refl _) (by simp; omega) (by simp; omega); rw [Nat.sub_self, List.take_zero, List.append_assoc] at h; exact h
   ·rw [eu, if_neg hb]; simp only [if_neg hb]; have h := ih (i + 1) f (n + 1) out (by omega) (by omega) hn (by omega); rw [pY hf hil] at h; exact h
theorem lv (c : UInt8) (n : Nat) (s : ByteArray) (hs : s.size ≤ 1099511627776) : Ev (fun k => bl.f k s (c.toNat : Int) (n : Int)) (cutT c n s) := by
 simp only [bl.f, cutT]; have := qB c s hs n s.size 0 0 n [] (by omega) (Nat.le_refl _) (by simp) (by simp); simpa using this
theorem k3 (s : ByteArray) (hs : s.size ≤ 1048576) : Ev (fun k => bv.f k s) (iE s) := by
 have hlen := gZ 44 s; simp only [bv.f, b9 s.size (by omega)]; have h1 := lv 44 (s.size + 1) s (by omega); rw [rJ] at h1; refine Ev.bind h1 ?_; have h := kJ (ec 44 s) (by omega) (fun x hx => by have := jz hx; omega) (ec 44 s).length 0 [] (by omega) (by simp); rw [List.drop_zero] at h; exact h
theorem oq (s : ByteArray) : (iE s).2 = true ↔ kt s := by
 unfold iE kt
 split
 ·rename_i h
  simp only [decide_eq_true_eq]; exact ⟨fun h2 => ⟨h, h2⟩, fun h2 => h2.2⟩
 ·rename_i h
  exact ⟨(fun h2 => by cases h2), fun h2 => absurd h2.1 h⟩
open Classical in
theorem kR (a : ByteArray) (b c : Int) (s : ByteArray) (hs : s.size ≤ 1048576) : Ev (fun k => eb.f k a b c s) (decide (ey s 60 = true ∧ jI b s)) := by
 obtain ⟨v, hv⟩ := ju s hs; have ht := oq s; simp only [eb.f]; refine Ev.bind hv ?_; refine Ev.bind (k3 s hs) ?_; refine Ev.bind (gA s (by omega)) ?_; unfold jI
 cases hp : ey s 60 with
 | false => simp only [if_neg (show ¬ (false = true) by decide)]; exact bi (fun h => by cases h.1) (Ev.now _)
 | true =>
  simp only [if_true]; have third : Ev (fun _ : Nat => some ((iE s).2)) (decide (kt s)) := by
   have e : (iE s).2 = decide (kt s) := by rw [Bool.eq_iff_iff, decide_eq_true_eq]; exact ht
   rw [e]; exact Ev.now _
  by_cases h1 : b = 1
  ·simp only [if_pos h1]; exact eA ⟨(by first | trivial | rfl), Or.inl h1⟩ (Ev.now _)
  ·simp only [if_neg h1]; by_cases h2 : b = 2
   ·simp only [if_pos h2]; cases hn : (iu s).2 with
    | true => simp only [if_true]; exact eA ⟨(by first | trivial | rfl), Or.inr (Or.inl ⟨h2, (by first | trivial | rfl)⟩)⟩ (Ev.now _)
    | false =>
     simp only [if_neg (show ¬ (false = true) by decide), if_neg (show ¬ b = 3 by omega)]; refine bi (fun h => ?_) (Ev.now _); rcases h.2 with h | ⟨_, h⟩ | ⟨h, _⟩
     ·exact h1 h
     ·first | exact absurd h (by simp) | cases h
     ·omega
   ·simp only [if_neg h2]; by_cases h3 : b = 3
    ·simp only [if_pos h3]; refine cR ?_ third; exact ⟨fun h => ⟨(by first | trivial | rfl), Or.inr (Or.inr ⟨h3, h⟩)⟩, fun h => by
      rcases h.2 with h | ⟨h, _⟩ | ⟨_, h⟩
      ·exact absurd h h1
      ·exact absurd h h2
      ·exact h⟩
    ·simp only [if_neg h3]; refine bi (fun h => ?_) (Ev.now _); rcases h.2 with h | ⟨h, _⟩ | ⟨h, _⟩
     ·exact h1 h
     ·exact h2 h
     ·exact h3 h
open Classical in
theorem jd (l : List S92) (hn : l.length ≤ 1048577) (hs : ∀ x ∈ l, x.f0.size ≤ 1048576) : ∀ (d i : Nat), i + d = l.length → Ev (fun k => ay.l0 k l (i : Int)) (decide (du l i)) := by
 intro d; induction d with
 | zero =>
  intro i hi; refine Ev.step (fun k => ay.l0.eq_2 _ _ _) ?_; simp only [if_neg (show ¬ ((i : Int) < (l.length : Int)) by omega), dO, Option.bind_some]; refine cN (gn (by omega)).symm ?_; refine gq fun _ => ?_
  congr 1; exact decide_eq_decide.2 (by omega)
 | succ d ih =>
  intro i hi; have hst := gl (l := l) (j := i) (by omega); have hsz := hs l[i] (List.getElem_mem _); refine Ev.step (fun k => ay.l0.eq_2 _ _ _) ?_; simp only [if_pos (show ((i : Int) < (l.length : Int)) by omega), if_pos (show 0 ≤ (i : Int) by omega), eo l i (by omega), dO, Option.bind_some]; have hj2 : ∀ (t o : Bool), ((t || o) = true ↔ fS l[i]) → Ev (fun k => ay.j2 k l (i : Int) t o l[i].f0 l[i].f1 l[i].f2) (decide (du l i)) := by
   intro t o hto; refine Ev.step (fun k => ay.j2.eq_2 _ _ _ _ _ _ _ _) ?_; refine Ev.bind (eT l[i].f0 (by omega)) ?_; cases hnm : eN (ak l[i].f0) with
   | false =>
    simp only [if_neg (show ¬ (false = true) by decide)]; refine cy (fun h => ?_) (Ev.now _); have := fX.2 (hst.1 h).1.1; rw [hnm] at this; cases this
   | true =>
    simp only [if_true]; obtain ⟨r, hr, hq⟩ := fi l l[i].f0 (by omega); refine Ev.bind hr ?_; by_cases he : r = (i : Int)
    ·have hfirst : ∀ m (hm : m < i), l[m].f0 ≠ l[i].f0 := by
      rcases hq with hq | ⟨j, hj, h1, h2, h3⟩
      ·omega
      ·obtain rfl : j = i := by omega
       exact h3
     simp only [if_pos he, b9 i (by omega)]; have hnext := ih (i + 1) (by omega); by_cases hp : fS l[i]
     ·have hb := hto.2 hp; have hgoal : Ev (fun k => ay.l0 k l ((i + 1 : Nat) : Int)) (decide (du l i)) := cN (hst.trans ⟨fun h => h.2, fun h => ⟨⟨fX.1 hnm, hp, hfirst⟩, h⟩⟩).symm hnext; cases t with
      | true => simp only [if_true]; exact hgoal
      | false =>
       have ho : o = true := by simpa using hb
       simp only [if_neg (show ¬ (false = true) by decide), ho, if_true]; exact hgoal
     ·have hb : (t || o) = false := by rw [Bool.eq_false_iff]; exact fun h => hp (hto.1 h)
      have ht : t = false := by cases t; rfl; simp at hb
      have ho : o = false := by cases o; rfl; simp at hb
      simp only [ht, ho, if_neg (show ¬ (false = true) by decide)]; exact cy (fun h => hp (hst.1 h).1.2.1) (Ev.now _)
    ·simp only [if_neg he]; refine cy (fun h => ?_) (Ev.now _); have h4 := (hst.1 h).1.2.2; rcases hq with ⟨h1, h2⟩ | ⟨j, hj, h1, h2, h3⟩
     ·exact h2 l[i] (List.getElem_mem _) rfl
     ·rcases Nat.lt_trichotomy j i with h5 | h5 | h5
      ·exact h4 j h5 h2
      ·exact he (by omega)
      ·exact h3 i h5 rfl
  have hj1 : ∀ (t : Bool), (t = true ↔ (l[i].f1 = 1 ∧ 1 ≤ l[i].f2 ∧ l[i].f2 ≤ 9)) → Ev (fun k => ay.j1 k l (i : Int) t l[i].f0 l[i].f1 l[i].f2) (decide (du l i)) := by
   intro t ht; refine Ev.step (fun k => ay.j1.eq_2 _ _ _ _ _ _ _) ?_; simp only [dO, Option.bind_some, decide_eq_true_eq]; by_cases h2 : 2 ≤ l[i].f1 ∧ l[i].f1 ≤ 3
   ·simp only [if_pos h2]; refine hj2 t _ ?_; unfold fS
    rw [Bool.or_eq_true, ht, beq_iff_eq]; constructor
    ·rintro (h | h)
     ·exact .inl h
     ·exact .inr ⟨h2.1, h2.2, h⟩
    ·rintro (h | h)
     ·exact .inl h
     ·exact .inr h.2.2
   ·simp only [if_neg h2]; refine hj2 t false ?_; unfold fS
    rw [Bool.or_false, ht]; exact ⟨.inl, fun h => h.resolve_right (fun h3 => h2 ⟨h3.1, h3.2.1⟩)⟩
  by_cases h1 : l[i].f1 = 1
  ·simp only [if_pos h1]; refine hj1 _ ?_; rw [decide_eq_true_eq]; exact ⟨fun h => ⟨h1, h⟩, fun h => h.2⟩
  ·simp only [if_neg h1]; exact hj1 false ⟨(fun h => by cases h), fun h => absurd h.1 h1⟩
theorem fT (l : List S92) (hn : l.length ≤ 1048577) (hs : ∀ x ∈ l, x.f0.size ≤ 1048576) : Ev (fun k => ay.f k l) (fc l) := jd l hn hs l.length 0 (by omega)
open Classical in
theorem lF (F : List S92) (hF : F.length ≤ 1048576) (hFs : ∀ x ∈ F, x.f0.size ≤ 1048576) (key : ByteArray) (l : List S86) (hk : key.size ≤ 1048576) (hn : l.length ≤ 1048576) (hs : ∀ x ∈ l, x.f0.size ≤ 1048576 ∧ x.f1.size ≤ 1048576) : ∀ (d i : Nat), i + d = l.length →
  Ev (fun k => bc.l0 k F (i : Int) key l) (decide ((∀ c ∈ l.drop i, ey c.f1 60 = true ∧ jI (er F c.f0) c.f1) ∧ fc F = true ∧ jB key l = true)) := by
 intro d; induction d with
 | zero =>
  intro i hi; refine Ev.step (fun k => bc.l0.eq_2 _ _ _ _ _) ?_; simp only [if_neg (show ¬ ((i : Int) < (l.length : Int)) by omega)]; rw [List.drop_eq_nil_of_le (by omega)]; refine Ev.bind (fT F (by omega) hFs) ?_; cases hf : fc F with
  | false => simp only [if_neg (show ¬ (false = true) by decide)]; exact bi (fun h => by cases h.2.1) (Ev.now _)
  | true =>
   simp only [if_true]; refine Ev.bind (km key l hk hn hs) ?_; cases hm : jB key l with
   | false => exact bi (fun h => by cases h.2.2) (Ev.now _)
   | true => exact eA ⟨fun c hc => by simp at hc, (by first | trivial | rfl), (by first | trivial | rfl)⟩ (Ev.now _)
 | succ d ih =>
  intro i hi; have hil : i < l.length := by omega
  have hsz := hs l[i] (List.getElem_mem _); obtain ⟨r, hr, hq⟩ := fi F l[i].f0 (by omega); refine Ev.step (fun k => bc.l0.eq_2 _ _ _ _ _) ?_; rw [cZ l i hil]; simp only [if_pos (show ((i : Int) < (l.length : Int)) by omega), if_pos (show 0 ≤ (i : Int) by omega), eE l i hil, b9 i (by omega)]; refine Ev.bind hr ?_; rcases hq with ⟨rfl, hno⟩ | ⟨j, hj, rfl, hj2, hjb⟩
  ·simp only [if_pos (show (-1 : Int) < 0 by decide)]; refine bi (fun h => ?_) (Ev.now _); have h1 := (h.1 l[i] (List.mem_cons_self ..)).2; unfold er at h1
   rw [f9 hno] at h1; rcases h1 with h1 | ⟨h1, _⟩ | ⟨h1, _⟩ <;> exact absurd h1 (by decide)
  ·have hk2 : er F l[i].f0 = F[j].f1 := by unfold er; rw [ga hj hj2 hjb]
   simp only [if_neg (show ¬ (j : Int) < 0 by omega), if_pos (show 0 ≤ (j : Int) by omega), if_pos (show (j : Int) < (F.length : Int) by omega), eo F j hj]; refine Ev.bind (kR _ _ _ l[i].f1 hsz.2) ?_; by_cases hc : ey l[i].f1 60 = true ∧ jI F[j].f1 l[i].f1
   ·rw [decide_eq_true hc]; simp only [if_true]; refine cR ⟨fun h => ⟨fun c hcm => ?_, h.2⟩, fun h => ⟨fun c hcm => h.1 c (List.mem_cons_of_mem _ hcm), h.2⟩⟩ (ih (i + 1) (by omega)); rcases List.mem_cons.1 hcm with rfl | hcm
    ·rw [hk2]; exact hc
    ·exact h.1 c hcm
   ·rw [decide_eq_false hc]; simp only [if_neg (show ¬ (false = true) by decide)]; refine bi (fun h => hc ?_) (Ev.now _); have := h.1 l[i] (List.mem_cons_self ..); rw [hk2] at this; exact this
open Classical in
theorem lM (F : List S92) (hF : F.length ≤ 1048576) (hFs : ∀ x ∈ F, x.f0.size ≤ 1048576) (key : ByteArray) (l : List S86) (hk : key.size ≤ 1048576) (hn : l.length ≤ 1048576) (hs : ∀ x ∈ l, x.f0.size ≤ 1048576 ∧ x.f1.size ≤ 1048576) : Ev (fun k => bc.f k F key l) (gF F key l) := by
 simp only [bc.f, gF]; have h := lF F hF hFs key l hk hn hs l.length 0 (by omega); rw [List.drop_zero] at h; refine cR ?_ h; unfold jn
 exact ⟨fun h => ⟨h.2.1, h.2.2, fun c hc => (h.1 c hc).2⟩, fun h => ⟨fun c hc => ⟨((ka h.2.1).1 c hc).2, h.2.2 c hc⟩, h.1, h.2.1⟩⟩
open Classical in
theorem pW (a b : List Int) (ha : a.length ≤ 1099511627776) : Ev (fun k => cn.f k a b) (decide (a = b)) := by
 simp only [cn.f]; by_cases hl : a.length = b.length
 ·simp only [if_pos (show (a.length : Int) = (b.length : Int) by omega)]; have main : ∀ (d i : Nat), i + d = a.length → Ev (fun k => cn.l0 k a b (i : Int)) (decide (a.drop i = b.drop i)) := by
   intro d; induction d with
   | zero =>
    intro i hi; refine Ev.step (fun k => cn.l0.eq_2 _ _ _ _) ?_; simp only [if_neg (show ¬ ((i : Int) < (a.length : Int)) by omega)]; rw [List.drop_eq_nil_of_le (by omega), List.drop_eq_nil_of_le (by omega)]; exact eA rfl (Ev.now _)
   | succ d ih =>
    intro i hi; have hia : i < a.length := by omega
    have hib : i < b.length := by omega
    refine Ev.step (fun k => cn.l0.eq_2 _ _ _ _) ?_; simp only [if_pos (show ((i : Int) < (a.length : Int)) by omega), if_pos (show (0 : Int) ≤ (i : Int) by omega), if_pos (show ((i : Int) < (b.length : Int)) by omega), jl a i hia, jl b i hib, b9 i (by omega)]; by_cases h : a[i] = b[i]
    ·simp only [if_pos h]; exact cR ⟨fun h2 => (ct hia hib).2 ⟨h, h2⟩, fun h2 => ((ct hia hib).1 h2).2⟩ (ih (i + 1) (by omega))
    ·simp only [if_neg h]; exact bi (fun h2 => h ((ct hia hib).1 h2).1) (Ev.now _)
  have := main a.length 0 (by omega); simpa using this
 ·simp only [if_neg (show ¬ (a.length : Int) = (b.length : Int) by omega)]; exact bi (fun h => hl (by rw [h])) (Ev.now _)
open Classical in
theorem iJ : ∀ (a b : List S50), a.length = b.length → (∀ p ∈ a, p.f1.length ≤ 1099511627776) → Ev (fun k => aQ.ps k a b) (decide (a = b))
 | [], [], _, _ => eA rfl (gq (fun k => by rw [aQ.ps]; intro _ _ _ _ h; cases h))
 | p :: a, q :: b, hl, hs => by
  have ih := iJ a b (by simpa using hl) (fun x hx => hs x (List.mem_cons_of_mem _ hx)); have hi := pW p.f1 q.f1 (hs p (by simp)); simp only [aQ.ps]; by_cases h0 : p.f0 = q.f0
  ·simp only [if_pos h0]; refine Ev.bind hi ?_; by_cases h1 : p.f1 = q.f1
   ·rw [decide_eq_true h1]; simp only [if_true]; exact cR ⟨fun h => by rw [h, mx.2 ⟨h0, h1⟩], fun h => (List.cons.inj h).2⟩ ih
   ·rw [decide_eq_false h1]; simp only [if_neg (show ¬ (false = true) by decide)]; exact bi (fun h => h1 (by rw [(List.cons.inj h).1])) (Ev.now _)
  ·simp only [if_neg h0]; exact bi (fun h => h0 (by rw [(List.cons.inj h).1])) (Ev.now _)
 | [], _ :: _, h, _ => by simp at h
 | _ :: _, [], h, _ => by simp at h
open Classical in
theorem iP : ∀ (a b : List S76), a.length = b.length → (∀ e ∈ a, ∀ p ∈ e.f2, p.f1.length ≤ 1099511627776) → Ev (fun k => aQ.es k a b) (decide (a = b))
 | [], [], _, _ => eA rfl (gq (fun k => by rw [aQ.es]; intro _ _ _ _ h; cases h))
 | p :: a, q :: b, hl, hs => by
  have ih := iP a b (by simpa using hl) (fun x hx => hs x (List.mem_cons_of_mem _ hx)); simp only [aQ.es, toList_inj]; by_cases h0 : p.f0 = q.f0
  ·simp only [if_pos h0]; by_cases h1 : p.f1 = q.f1
   ·simp only [if_pos h1]; by_cases h2 : p.f2.length = q.f2.length
    ·simp only [if_pos h2]; refine Ev.bind (iJ p.f2 q.f2 h2 (hs p (by simp))) ?_; by_cases h3 : p.f2 = q.f2
     ·rw [decide_eq_true h3]; simp only [if_true]; exact cR ⟨fun h => by rw [h, kx.2 ⟨h0, h1, h3⟩], fun h => (List.cons.inj h).2⟩ ih
     ·rw [decide_eq_false h3]; simp only [if_neg (show ¬ (false = true) by decide)]; exact bi (fun h => h3 (by rw [(List.cons.inj h).1])) (Ev.now _)
    ·simp only [if_neg h2]; exact bi (fun h => h2 (by rw [(List.cons.inj h).1])) (Ev.now _)
   ·simp only [if_neg h1]; exact bi (fun h => h1 (by rw [(List.cons.inj h).1])) (Ev.now _)
  ·simp only [if_neg h0]; exact bi (fun h => h0 (by rw [(List.cons.inj h).1])) (Ev.now _)
 | [], _ :: _, h, _ => by simp at h
 | _ :: _, [], h, _ => by simp at h
open Classical in
theorem lh (a b : List S76) (hs : ∀ e ∈ a, ∀ p ∈ e.f2, p.f1.length ≤ 1099511627776) : Ev (fun k => aQ.f k a b) (decide (a = b)) := by
 simp only [aQ.f]; by_cases hl : a.length = b.length
 ·simp only [if_pos hl]; exact iP a b hl hs
 ·simp only [if_neg hl]; exact bi (fun h => hl (by rw [h])) (Ev.now _)
open Classical in
theorem jT {F : List S92} {R : List S46} {E : List S76} (hz : fI F R E) (n : Int) : ∀ (d i : Nat), i + d = R.length → (∀ (j : Nat) (h : j < R.length), j < i → m5 F R n j h) → Ev (fun k => an.l0 k (i : Int) F R E n) (decide (dp F R n i ∧ g5 F R E n)) := by
 have hr := hz.r; intro d; induction d with
 | zero =>
  intro i hi hprev; have hall : dp F R n 0 := fun j hj _ => hprev j hj (by omega)
  have hend : dp F R n i := fun j hj hij => by omega
  refine Ev.step (fun k => an.l0.eq_2 _ _ _ _ _ _) ?_; simp only [if_neg (show ¬ ((i : Int) < (R.length : Int)) by omega)]; refine Ev.bind (fT F (by have := hz.f; omega) hz.fs) ?_; cases hf : fc F with
  | false => simp only [if_neg (show ¬ (false = true) by decide)]; exact bi (fun h => by have := h.2.1; rw [hf] at this; cases this) (Ev.now _)
  | true =>
   simp only [if_true]; by_cases h8 : R.length ≤ 8
   ·simp only [if_pos (show ((R.length : Int) ≤ 8) by omega), dO, Option.bind_some]; by_cases hn : 0 ≤ n ∧ n ≤ 999999999
    ·simp only [decide_eq_true hn, if_true]; obtain ⟨L, h1, h2, h3⟩ := kz F hz.f R (l6 hall) h8; refine Ev.bind h2 ?_; refine Ev.bind (lh L E (fun e he p hp => by have := ((h3.2 e he).2).2 p hp; omega)) ?_; refine cR ⟨fun h => ⟨hend, hf, h8, hn, by rw [← h]; exact h2⟩, fun h => lX h2 h.2.2.2.2⟩ (Ev.now (decide (L = E)))
    ·simp only [decide_eq_false hn, if_neg (show ¬ (false = true) by decide)]; exact bi (fun h => hn h.2.2.2.1) (Ev.now _)
   ·simp only [if_neg (show ¬ ((R.length : Int) ≤ 8) by omega)]; exact bi (fun h => h8 h.2.2.1) (Ev.now _)
 | succ d ih =>
  intro i hi hprev; have hil : i < R.length := by omega
  have hs := hz.rs _ (List.getElem_mem hil); have next : m5 F R n i hil → Ev (fun k => an.l0 k ((i + 1 : Nat) : Int) F R E n) (decide (dp F R n i ∧ g5 F R E n)) := fun hp =>
   cR ⟨fun h => ⟨(dW hil).2 ⟨hp, h.1⟩, h.2⟩, fun h => ⟨((dW hil).1 h.1).2, h.2⟩⟩ (ih (i + 1) (by omega) (fun j hj hji => by
    rcases Nat.lt_or_ge j i with hlt | hge
    ·exact hprev j hj hlt
    ·obtain rfl : j = i := by omega
     exact hp))
  have stop : ¬ m5 F R n i hil → Ev (fun _ : Nat => some false) (decide (dp F R n i ∧ g5 F R E n)) := fun hp => bi (fun h => hp ((dW hil).1 h.1).1) (Ev.now _)
  refine Ev.step (fun k => an.l0.eq_2 _ _ _ _ _ _) ?_; simp only [if_pos (show ((i : Int) < (R.length : Int)) by omega), if_pos (show (0 : Int) ≤ (i : Int) by omega), gS R i hil, b9 i (by omega)]; refine Ev.bind (lM F hz.f hz.fs R[i].f1.f0 R[i].f1.f1 hs.1 hs.2.1 hs.2.2) ?_; cases hd : gF F R[i].f1.f0 R[i].f1.f1 with
  | false => simp only [if_neg (show ¬ (false = true) by decide)]; exact stop (fun h => by have := h.1; rw [hd] at this; cases this)
  | true =>
   simp only [if_true]; refine Ev.bind (nQ R (by omega) R[i].f1.f0) ?_; by_cases hk : ck R[i].f1.f0 0 R = (i : Int)
   ·simp only [if_pos hk, dO, Option.bind_some]; by_cases hin : 0 ≤ R[i].f0 ∧ R[i].f0 ≤ wrap64 (n - 1)
    ·simp only [decide_eq_true hin, if_true]; by_cases h0 : 0 < i
     ·obtain ⟨m, rfl⟩ : ∃ m, i = m + 1 := ⟨i - 1, by omega⟩; simp only [if_pos (show ((m + 1 : Nat) : Int) > 0 by omega), wpred m (by omega), if_pos (show (0 : Int) ≤ (m : Int) by omega), if_pos (show ((m : Int) < (R.length : Int)) by omega), gS R m (by omega)]; by_cases ho : R[m].f0 ≥ R[m + 1].f0
      ·simp only [if_pos ho]; exact stop (fun h => by have h2 : R[m].f0 < R[m + 1].f0 := h.2.2.2 h0; omega)
      ·simp only [if_neg ho]; exact next ⟨hd, hk, hin, fun _ => by show R[m].f0 < R[m + 1].f0; omega⟩
     ·simp only [if_neg (show ¬ ((i : Int) > 0) by omega)]; exact next ⟨hd, hk, hin, fun h => absurd h h0⟩
    ·simp only [decide_eq_false hin, if_neg (show ¬ (false = true) by decide)]; exact stop (fun h => hin h.2.2.1)
   ·simp only [if_neg hk]; exact stop (fun h => hk h.2.1)
theorem jQ {F : List S92} {R : List S46} {E : List S76} (hz : fI F R E) (n : Int) : Ev (fun k => an.f k F R E n) (ie F R E n) := by
 have := jT hz n R.length 0 (by omega) (fun j hj h => by omega); simpa [an.f, ie] using this
theorem jp {F : List S92} {R : List S46} {E : List S76} (hz : fI F R E) (n : Int) (key : ByteArray) : Ev (fun k => dF.f k F R E n key) (kc F R E n key) := by
 have hr := hz.r; simp only [dF.f]; refine Ev.bind (nQ R (by omega) key) ?_; refine Ev.bind (jQ hz n) ?_; unfold kc
 by_cases hb : ie F R E n = true
 ·simp only [if_pos hb]; by_cases h0 : ck key 0 R < 0
  ·simp only [if_pos h0]; exact Ev.now _
  ·have hl := f7 key R 0; have hc := oD hz key (by omega); simp only [if_neg h0, if_pos (show 0 ≤ ck key 0 R by omega), if_pos (show ck key 0 R < (R.length : Int) by omega), Option.bind_some, List.length_nil, Nat.zero_add, List.nil_append, if_pos (show (ab R (ck key 0 R)).f1.f1.length < 4398046511104 by omega)]; exact Ev.now _
 ·simp only [if_neg hb]; exact Ev.now _
open Classical in
theorem ou (x y : S92) : dN.f x.f0 x.f1 x.f2 y.f0 y.f1 y.f2 = some (decide (x = y)) := by
 obtain ⟨a0, a1, a2⟩ := x; obtain ⟨b0, b1, b2⟩ := y; simp only [dN.f, toList_inj]; by_cases h0 : a0 = b0
 case neg => simp [h0]
 by_cases h1 : a1 = b1
 case neg => simp [h0, h1]
 by_cases h2 : a2 = b2
 case neg => simp [h0, h1, h2]
 simp [h0, h1, h2]
open Classical in
theorem nX (a b : List S92) (hn : a.length < 4611686018427387904) (hl : a.length = b.length) : ∀ (d i : Nat), i + d = a.length →
  Ev (fun k => aD.l0 k a b (i : Int)) (decide (a.drop i = b.drop i)) := by
 intro d; induction d with
 | zero =>
  intro i hi; refine Ev.step (fun k => aD.l0.eq_2 _ _ _ _) ?_; simp only [if_neg (show ¬ ((i : Int) < (a.length : Int)) by omega)]; rw [List.drop_of_length_le (by omega), List.drop_of_length_le (by omega)]; exact jX rfl (Ev.now _)
 | succ d ih =>
  intro i hi; refine Ev.step (fun k => aD.l0.eq_2 _ _ _ _) ?_; simp only [if_pos (show ((i : Int) < (a.length : Int)) by omega), if_pos (show 0 ≤ (i : Int) by omega), if_pos (show ((i : Int) < (b.length : Int)) by omega), b9 i (by omega), eo a i (by omega), eo b i (by omega), ou, Option.bind_some, decide_eq_true_eq]; have hs := ct (a := a) (b := b) (show i < a.length by omega) (show i < b.length by omega); by_cases h : a[i] = b[i]
  ·simp only [if_pos h]; exact cN (hs.trans ⟨fun h1 => h1.2, fun h1 => ⟨h, h1⟩⟩).symm (ih (i + 1) (by omega))
  ·simp only [if_neg h]; exact cy (fun h1 => h (hs.1 h1).1) (Ev.now _)
open Classical in
theorem nN (a b : List S92) (hn : a.length < 4611686018427387904) : Ev (fun k => aD.f k a b) (decide (a = b)) := by
 simp only [aD.f]; by_cases hl : a.length = b.length
 ·simp only [if_pos (show (a.length : Int) = (b.length : Int) by omega)]; exact nX a b hn hl a.length 0 (by omega)
 ·simp only [if_neg (show ¬ (a.length : Int) = (b.length : Int) by omega)]; exact cy (fun h => hl (by rw [h])) (Ev.now _)
open Classical in
theorem lC (a : List S92) (hn : a.length < 4611686018427387904) : Ev (fun k => aD.f k a a) true := by
 have := nN a a hn; rwa [decide_eq_true rfl] at this
theorem qh (l : List S76) (j : Nat) (h : j < l.length) : aq l (j : Int) = l[j] := by
 unfold aq; simp [List.getD_eq_getElem?_getD, List.getElem?_eq_getElem h]
theorem rN (l : List S50) (j : Nat) (h : j < l.length) : bb l (j : Int) = l[j] := by
 unfold bb; simp [List.getD_eq_getElem?_getD, List.getElem?_eq_getElem h]
theorem nK (a : List Int) (hn : a.length ≤ 1048576) : Ev (fun k => ce.f k a a) true := by
 have main : ∀ (d i : Nat), i + d = a.length → Ev (fun k => ce.l0 k a a (i : Int)) true := by
  intro d; induction d with
  | zero =>
   intro i hi; refine Ev.step (fun k => ce.l0.eq_2 _ _ _ _) ?_; simp only [if_neg (show ¬ ((i : Int) < (a.length : Int)) by omega)]; exact Ev.now _
  | succ d ih =>
   intro i hi; refine Ev.step (fun k => ce.l0.eq_2 _ _ _ _) ?_; simp only [if_pos (show ((i : Int) < (a.length : Int)) by omega), if_pos (show 0 ≤ (i : Int) by omega), b9 i (by omega), if_true]; exact ih (i + 1) (by omega)
 simp only [ce.f, if_true]; exact main a.length 0 (by omega)
def oN (x : S50) : Prop := x.f1.length ≤ 1048576
theorem nz (x : S50) (hx : oN x) : Ev (fun k => ek.f k x.f0 x.f1 x.f0 x.f1) true := by
 simp only [ek.f, if_true]; refine Ev.bind (nK x.f1 hx) ?_; simp only [if_true]; exact Ev.now _
theorem mS (a : List S50) (hn : a.length ≤ 1048576) (hs : ∀ x ∈ a, oN x) : Ev (fun k => aY.f k a a) true := by
 have main : ∀ (d i : Nat), i + d = a.length → Ev (fun k => aY.l0 k a a (i : Int)) true := by
  intro d; induction d with
  | zero =>
   intro i hi; refine Ev.step (fun k => aY.l0.eq_2 _ _ _ _) ?_; simp only [if_neg (show ¬ ((i : Int) < (a.length : Int)) by omega)]; exact Ev.now _
  | succ d ih =>
   intro i hi; refine Ev.step (fun k => aY.l0.eq_2 _ _ _ _) ?_; simp only [if_pos (show ((i : Int) < (a.length : Int)) by omega), if_pos (show 0 ≤ (i : Int) by omega), b9 i (by omega), rN a i (by omega)]; refine Ev.bind (nz a[i] (hs _ (List.getElem_mem _))) ?_; simp only [if_true]; exact ih (i + 1) (by omega)
 simp only [aY.f, if_true]; exact main a.length 0 (by omega)
def po (x : S76) : Prop := x.f2.length ≤ 1048576 ∧ ∀ p ∈ x.f2, oN p
theorem mR (x : S76) (hx : po x) : Ev (fun k => dT.f k x.f0 x.f1 x.f2 x.f0 x.f1 x.f2) true := by
 simp only [dT.f, if_true]; refine Ev.bind (mS x.f2 hx.1 hx.2) ?_; simp only [if_true]; exact Ev.now _
theorem lL (a : List S76) (hn : a.length ≤ 1048576) (hs : ∀ x ∈ a, po x) : Ev (fun k => aI.f k a a) true := by
 have main : ∀ (d i : Nat), i + d = a.length → Ev (fun k => aI.l0 k a a (i : Int)) true := by
  intro d; induction d with
  | zero =>
   intro i hi; refine Ev.step (fun k => aI.l0.eq_2 _ _ _ _) ?_; simp only [if_neg (show ¬ ((i : Int) < (a.length : Int)) by omega)]; exact Ev.now _
  | succ d ih =>
   intro i hi; refine Ev.step (fun k => aI.l0.eq_2 _ _ _ _) ?_; simp only [if_pos (show ((i : Int) < (a.length : Int)) by omega), if_pos (show 0 ≤ (i : Int) by omega), b9 i (by omega), qh a i (by omega)]; refine Ev.bind (mR a[i] (hs _ (List.getElem_mem _))) ?_; simp only [if_true]; exact ih (i + 1) (by omega)
 simp only [aI.f, if_true]; exact main a.length 0 (by omega)
theorem r6 (l : List S46) (j : Nat) (h : j < l.length) : ab l (j : Int) = l[j] := by
 unfold ab; simp [List.getD_eq_getElem?_getD, List.getElem?_eq_getElem h]
def qD (x : S46) : Prop := x.f1.f1.length ≤ 1048576
theorem n7 (x : S46) (hx : qD x) : Ev (fun k => eL.f k x.f0 x.f1.f0 x.f1.f1 x.f0 x.f1.f0 x.f1.f1) true := by
 simp only [eL.f, if_true]; refine Ev.bind (f5 x.f1.f0 x.f1.f1 (by unfold qD at hx; omega)) ?_; simp only [if_true]; exact Ev.now _
theorem nl (a : List S46) (hn : a.length ≤ 1048576) (hs : ∀ x ∈ a, qD x) : Ev (fun k => a8.f k a a) true := by
 have main : ∀ (d i : Nat), i + d = a.length → Ev (fun k => a8.l0 k a a (i : Int)) true := by
  intro d; induction d with
  | zero =>
   intro i hi; refine Ev.step (fun k => a8.l0.eq_2 _ _ _ _) ?_; simp only [if_neg (show ¬ ((i : Int) < (a.length : Int)) by omega)]; exact Ev.now _
  | succ d ih =>
   intro i hi; refine Ev.step (fun k => a8.l0.eq_2 _ _ _ _) ?_; simp only [if_pos (show ((i : Int) < (a.length : Int)) by omega), if_pos (show 0 ≤ (i : Int) by omega), b9 i (by omega), r6 a i (by omega)]; refine Ev.bind (n7 a[i] (hs _ (List.getElem_mem _))) ?_; simp only [if_true]; exact ih (i + 1) (by omega)
 simp only [a8.f, if_true]; exact main a.length 0 (by omega)
theorem mz {F : List S92} {R : List S46} {E : List S76} (h : fI F R E) (n : Int) : Ev (fun k => dR.f k F R E n F R E n) true := by
 simp only [dR.f]; refine Ev.bind (lC F (by have := h.f; omega)) ?_; simp only [if_true]; refine Ev.bind (nl R h.r (fun x hx => (h.rs x hx).2.1)) ?_; simp only [if_true]; refine Ev.bind (lL E h.e (fun x hx => h.es x hx)) ?_; simp only [if_true]; exact Ev.now _
def kf (x : dY) : S86 := ⟨x.f0, x.f1⟩
def fE (x : dU) : Prop := x.f0.size ≤ 1048576
def eQ (x : eC) : Prop := x.f1.length ≤ 1048576
def eK (x : dQ) : Prop := x.f2.length ≤ 1048576 ∧ ∀ p ∈ x.f2, eQ p
def fq (x : dY) : Prop := x.f0.size ≤ 1048576 ∧ x.f1.size ≤ 1048576
def fA (x : dS) : Prop := x.f1.f0.size ≤ 1048576 ∧ x.f1.f1.length ≤ 1048576 ∧ ∀ c ∈ x.f1.f1, fq c
def oP (F : List dU) (R : List dS) (E : List dQ) : Prop :=
 (F.length ≤ 1048576 ∧ ∀ x ∈ F, fE x) ∧ (R.length ≤ 1048576 ∧ ∀ x ∈ R, fA x) ∧ (E.length ≤ 1048576 ∧ ∀ x ∈ E, eK x)
def iD (x : eC) : S50 := ⟨x.f0, x.f1⟩
def fB (x : dQ) : S76 := ⟨x.f0, x.f1, x.f2.map iD⟩
def k8 (x : dS) : S46 := ⟨x.f0, ⟨x.f1.f0, x.f1.f1.map kf⟩⟩
theorem qp {F : List dU} {R : List dS} {E : List dQ} (h : oP F R E) : fI (F.map io) (R.map k8) (E.map fB) := by
 obtain ⟨⟨f1, f2⟩, ⟨r1, r2⟩, ⟨e1, e2⟩⟩ := h; refine ⟨by rw [List.length_map]; exact f1, fun x hx => ?_, by rw [List.length_map]; exact r1, fun x hx => ?_, by rw [List.length_map]; exact e1, fun x hx => ?_⟩
 ·obtain ⟨y, hy, rfl⟩ := List.mem_map.1 hx; exact f2 y hy
 ·obtain ⟨y, hy, rfl⟩ := List.mem_map.1 hx; obtain ⟨a, b, c⟩ := r2 y hy; refine ⟨a, by show (y.f1.f1.map kf).length ≤ _; rw [List.length_map]; exact b, fun z hz => ?_⟩; obtain ⟨u, hu, rfl⟩ := List.mem_map.1 hz; exact c u hu
 ·obtain ⟨y, hy, rfl⟩ := List.mem_map.1 hx; obtain ⟨a, b⟩ := e2 y hy; refine ⟨by show (y.f2.map iD).length ≤ _; rw [List.length_map]; exact a, fun z hz => ?_⟩; obtain ⟨u, hu, rfl⟩ := List.mem_map.1 hz; exact b u hu
theorem i6 (l : List dU) (j : Nat) (h : j < l.length) : dn l (j : Int) = l[j] := by
 unfold dn; simp [List.getD_eq_getElem?_getD, List.getElem?_eq_getElem h]
theorem ol (x : dU) (a : Int) (hx : fu x) (h0 : 0 ≤ a) (h1 : a ≤ 1048576) : ∃ r, dz.f x.f0 x.f1 x.f2 a = some r ∧ (r = -1 ∨ (0 ≤ r ∧ r ≤ a ∧ fE x)) := by
 unfold fu at hx
 unfold fE
 unfold dz.f
 rw [bx (x := a - (x.f0.size : Int)) (by omega) (by omega)]; by_cases h20 : a - (x.f0.size : Int) < 0
 ·rw [if_pos h20]; exact ⟨_, rfl, .inl rfl⟩
 rw [if_neg h20]; exact ⟨_, rfl, .inr ⟨by omega, by omega, by omega⟩⟩
theorem nS (l : List dU) (hl : l.length ≤ 1048576) (hg : ∀ x ∈ l, fu x) : ∀ (d i : Nat) (a : Int), i + d = l.length → 0 ≤ a → a ≤ 1048576 →
  ∃ r, Ev (fun k => bn.l0 k l a (i : Int)) r ∧ (r = -1 ∨ (0 ≤ r ∧ r ≤ a ∧ ∀ x ∈ l.drop i, fE x)) := by
 intro d; induction d with
 | zero =>
  intro i a hi h0 h1; refine ⟨a, Ev.step (fun k => bn.l0.eq_2 _ _ _ _) ?_, .inr ⟨h0, Int.le_refl _, fun x hx => ?_⟩⟩
  ·simp only [if_neg (show ¬ ((i : Int) < (l.length : Int)) by omega)]; exact Ev.now _
  ·rw [List.drop_of_length_le (by omega)] at hx; cases hx
 | succ d ih =>
  intro i a hi h0 h1; obtain ⟨r1, hr1, hc⟩ := ol l[i] a (hg _ (List.getElem_mem _)) h0 h1; rcases hc with hc | ⟨hc0, hc1, hc2⟩
  ·refine ⟨-1, Ev.step (fun k => bn.l0.eq_2 _ _ _ _) ?_, .inl rfl⟩; simp only [if_pos (show ((i : Int) < (l.length : Int)) by omega), if_pos (show 0 ≤ (i : Int) by omega), i6 l i (by omega), hr1, Option.bind_some, hc]; exact Ev.now _
  ·obtain ⟨r, hr, hq⟩ := ih (i + 1) r1 (by omega) hc0 (by omega); refine ⟨r, Ev.step (fun k => bn.l0.eq_2 _ _ _ _) ?_, ?_⟩
   ·simp only [if_pos (show ((i : Int) < (l.length : Int)) by omega), if_pos (show 0 ≤ (i : Int) by omega), i6 l i (by omega), hr1, Option.bind_some, if_neg (show ¬ r1 < 0 by omega), b9 i (by omega)]; exact hr
   ·rcases hq with hq | ⟨q0, q1, q2⟩
    ·exact .inl hq
    ·refine .inr ⟨q0, by omega, fun x hx => ?_⟩; rcases (dX (show i < l.length by omega)).1 hx with hx | hx
     ·rw [hx]; exact hc2
     ·exact q2 x hx
theorem nw (l : List dU) (hl : l.length ≤ 9223372036854775807) (hg : ∀ x ∈ l, fu x) (a : Int) (h0 : 0 ≤ a) (h1 : a ≤ 1048576) :
  ∃ r, Ev (fun k => bn.f k l a) r ∧ (r = -1 ∨ (0 ≤ r ∧ r ≤ a ∧ l.length ≤ 1048576 ∧ ∀ x ∈ l, fE x)) := by
 simp only [bn.f, bx (x := a - (l.length : Int)) (by omega) (by omega)]; by_cases h2 : a - (l.length : Int) < 0
 ·simp only [if_pos h2]; exact ⟨-1, Ev.now _, .inl rfl⟩
 ·simp only [if_neg h2]; obtain ⟨r, hr, hq⟩ := nS l (by omega) hg l.length 0 (a - (l.length : Int)) (by omega) (by omega) (by omega); refine ⟨r, hr, ?_⟩; rcases hq with hq | ⟨q0, q1, q2⟩
  ·exact .inl hq
  ·exact .inr ⟨q0, by omega, by omega, q2⟩
theorem jt (l : List dQ) (j : Nat) (h : j < l.length) : cY l (j : Int) = l[j] := by
 unfold cY; simp [List.getD_eq_getElem?_getD, List.getElem?_eq_getElem h]
theorem ke (l : List eC) (j : Nat) (h : j < l.length) : dC l (j : Int) = l[j] := by
 unfold dC; simp [List.getD_eq_getElem?_getD, List.getElem?_eq_getElem h]
def gH (x : eC) : Prop := x.f1.length ≤ 9223372036854775807
theorem pH (x : eC) (a : Int) (hx : gH x) (h0 : 0 ≤ a) (h1 : a ≤ 1048576) : ∃ r, Ev (fun _ : Nat => dJ.f x.f0 x.f1 a) r ∧ (r = -1 ∨ (0 ≤ r ∧ r ≤ a ∧ eQ x)) := by
 unfold gH at hx
 unfold eQ
 simp only [dJ.f, ef.f, bx (x := a - (x.f1.length : Int)) (by omega) (by omega)]; by_cases h2 : a - (x.f1.length : Int) < 0
 ·simp only [if_pos h2, Option.bind_some, if_pos (show (-1 : Int) < 0 by omega)]; exact ⟨-1, Ev.now _, .inl rfl⟩
 ·simp only [if_neg h2, Option.bind_some]; exact ⟨_, Ev.now _, .inr ⟨by omega, by omega, by omega⟩⟩
theorem oH (l : List eC) (hl : l.length ≤ 1048576) (hg : ∀ x ∈ l, gH x) : ∀ (d i : Nat) (a : Int), i + d = l.length → 0 ≤ a → a ≤ 1048576 →
  ∃ r, Ev (fun k => bL.l0 k l a (i : Int)) r ∧ (r = -1 ∨ (0 ≤ r ∧ r ≤ a ∧ ∀ x ∈ l.drop i, eQ x)) := by
 intro d; induction d with
 | zero =>
  intro i a hi h0 h1; refine ⟨a, Ev.step (fun k => bL.l0.eq_2 _ _ _ _) ?_, .inr ⟨h0, Int.le_refl _, fun x hx => ?_⟩⟩
  ·simp only [if_neg (show ¬ ((i : Int) < (l.length : Int)) by omega)]; exact Ev.now _
  ·rw [List.drop_of_length_le (by omega)] at hx; cases hx
 | succ d ih =>
  intro i a hi h0 h1; obtain ⟨r1, hr1, hc⟩ := pH l[i] a (hg _ (List.getElem_mem _)) h0 h1; rcases hc with hc | ⟨hc0, hc1, hc2⟩
  ·refine ⟨-1, Ev.step (fun k => bL.l0.eq_2 _ _ _ _) ?_, .inl rfl⟩; simp only [if_pos (show ((i : Int) < (l.length : Int)) by omega), if_pos (show 0 ≤ (i : Int) by omega), ke l i (by omega)]; refine Ev.bind hr1 ?_; simp only [if_pos (show r1 < 0 by omega)]; exact Ev.now _
  ·obtain ⟨r, hr, hq⟩ := ih (i + 1) r1 (by omega) hc0 (by omega); refine ⟨r, Ev.step (fun k => bL.l0.eq_2 _ _ _ _) ?_, ?_⟩
   ·simp only [if_pos (show ((i : Int) < (l.length : Int)) by omega), if_pos (show 0 ≤ (i : Int) by omega), ke l i (by omega), b9 i (by omega)]; refine Ev.bind hr1 ?_; simp only [if_neg (show ¬ r1 < 0 by omega)]; exact hr
   ·rcases hq with hq | ⟨q0, q1, q2⟩
    ·exact .inl hq
    ·refine .inr ⟨q0, by omega, fun x hx => ?_⟩; rcases (dX (show i < l.length by omega)).1 hx with hx | hx
     ·rw [hx]; exact hc2
     ·exact q2 x hx
theorem oU (l : List eC) (hl : l.length ≤ 9223372036854775807) (hg : ∀ x ∈ l, gH x) (a : Int) (h0 : 0 ≤ a) (h1 : a ≤ 1048576) :
  ∃ r, Ev (fun k => bL.f k l a) r ∧ (r = -1 ∨ (0 ≤ r ∧ r ≤ a ∧ l.length ≤ 1048576 ∧ ∀ x ∈ l, eQ x)) := by
 simp only [bL.f, bx (x := a - (l.length : Int)) (by omega) (by omega)]; by_cases h2 : a - (l.length : Int) < 0
 ·simp only [if_pos h2]; exact ⟨-1, Ev.now _, .inl rfl⟩
 ·simp only [if_neg h2]; obtain ⟨r, hr, hq⟩ := oH l (by omega) hg l.length 0 (a - (l.length : Int)) (by omega) (by omega) (by omega); refine ⟨r, hr, ?_⟩; rcases hq with hq | ⟨q0, q1, q2⟩
  ·exact .inl hq
  ·exact .inr ⟨q0, by omega, by omega, q2⟩
def gL (x : dQ) : Prop := x.f0.size ≤ 9223372036854775807 ∧ x.f1.size ≤ 9223372036854775807 ∧ x.f2.length ≤ 9223372036854775807 ∧ ∀ p ∈ x.f2, gH p
theorem oe (x : dQ) (a : Int) (hx : gL x) (h0 : 0 ≤ a) (h1 : a ≤ 1048576) : ∃ r, Ev (fun k => dD.f k x.f0 x.f1 x.f2 a) r ∧ (r = -1 ∨ (0 ≤ r ∧ r ≤ a ∧ eK x)) := by
 obtain ⟨w0, w1, w2, w3⟩ := hx; simp only [dD.f, bx (x := a - (x.f0.size : Int)) (by omega) (by omega)]; by_cases h2 : a - (x.f0.size : Int) < 0
 ·simp only [if_pos h2]; exact ⟨-1, Ev.now _, .inl rfl⟩
 simp only [if_neg h2, bx (x := a - (x.f0.size : Int) - (x.f1.size : Int)) (by omega) (by omega)]; by_cases h3 : a - (x.f0.size : Int) - (x.f1.size : Int) < 0
 ·simp only [if_pos h3]; exact ⟨-1, Ev.now _, .inl rfl⟩
 simp only [if_neg h3]; obtain ⟨r, hr, hq⟩ := oU x.f2 w2 w3 (a - (x.f0.size : Int) - (x.f1.size : Int)) (by omega) (by omega); rcases hq with hq | ⟨q0, q1, q2, q3⟩
 ·exact ⟨-1, Ev.bind hr (by simp only [if_pos (show r < 0 by omega)]; exact Ev.now _), .inl rfl⟩
 ·exact ⟨r, Ev.bind hr (by simp only [if_neg (show ¬ r < 0 by omega)]; exact Ev.now _), .inr ⟨q0, by omega, q2, q3⟩⟩
theorem m0 (l : List dQ) (hl : l.length ≤ 1048576) (hg : ∀ x ∈ l, gL x) : ∀ (d i : Nat) (a : Int), i + d = l.length → 0 ≤ a → a ≤ 1048576 →
  ∃ r, Ev (fun k => bz.l0 k l a (i : Int)) r ∧ (r = -1 ∨ (0 ≤ r ∧ r ≤ a ∧ ∀ x ∈ l.drop i, eK x)) := by
 intro d; induction d with
 | zero =>
  intro i a hi h0 h1; refine ⟨a, Ev.step (fun k => bz.l0.eq_2 _ _ _ _) ?_, .inr ⟨h0, Int.le_refl _, fun x hx => ?_⟩⟩
  ·simp only [if_neg (show ¬ ((i : Int) < (l.length : Int)) by omega)]; exact Ev.now _
  ·rw [List.drop_of_length_le (by omega)] at hx; cases hx
 | succ d ih =>
  intro i a hi h0 h1; obtain ⟨r1, hr1, hc⟩ := oe l[i] a (hg _ (List.getElem_mem _)) h0 h1; rcases hc with hc | ⟨hc0, hc1, hc2⟩
  ·refine ⟨-1, Ev.step (fun k => bz.l0.eq_2 _ _ _ _) ?_, .inl rfl⟩; simp only [if_pos (show ((i : Int) < (l.length : Int)) by omega), if_pos (show 0 ≤ (i : Int) by omega), jt l i (by omega)]; refine Ev.bind hr1 ?_; simp only [if_pos (show r1 < 0 by omega)]; exact Ev.now _
  ·obtain ⟨r, hr, hq⟩ := ih (i + 1) r1 (by omega) hc0 (by omega); refine ⟨r, Ev.step (fun k => bz.l0.eq_2 _ _ _ _) ?_, ?_⟩
   ·simp only [if_pos (show ((i : Int) < (l.length : Int)) by omega), if_pos (show 0 ≤ (i : Int) by omega), jt l i (by omega), b9 i (by omega)]; refine Ev.bind hr1 ?_; simp only [if_neg (show ¬ r1 < 0 by omega)]; exact hr
   ·rcases hq with hq | ⟨q0, q1, q2⟩
    ·exact .inl hq
    ·refine .inr ⟨q0, by omega, fun x hx => ?_⟩; rcases (dX (show i < l.length by omega)).1 hx with hx | hx
     ·rw [hx]; exact hc2
     ·exact q2 x hx
theorem ni (l : List dQ) (hl : l.length ≤ 9223372036854775807) (hg : ∀ x ∈ l, gL x) (a : Int) (h0 : 0 ≤ a) (h1 : a ≤ 1048576) :
  ∃ r, Ev (fun k => bz.f k l a) r ∧ (r = -1 ∨ (0 ≤ r ∧ r ≤ a ∧ l.length ≤ 1048576 ∧ ∀ x ∈ l, eK x)) := by
 simp only [bz.f, bx (x := a - (l.length : Int)) (by omega) (by omega)]; by_cases h2 : a - (l.length : Int) < 0
 ·simp only [if_pos h2]; exact ⟨-1, Ev.now _, .inl rfl⟩
 ·simp only [if_neg h2]; obtain ⟨r, hr, hq⟩ := m0 l (by omega) hg l.length 0 (a - (l.length : Int)) (by omega) (by omega) (by omega); refine ⟨r, hr, ?_⟩; rcases hq with hq | ⟨q0, q1, q2⟩
  ·exact .inl hq
  ·exact .inr ⟨q0, by omega, by omega, q2⟩
theorem mq (l : List dS) (j : Nat) (h : j < l.length) : cX l (j : Int) = l[j] := by
 unfold cX; simp [List.getD_eq_getElem?_getD, List.getElem?_eq_getElem h]
theorem ky (l : List dY) (j : Nat) (h : j < l.length) : d7 l (j : Int) = l[j] := by
 unfold d7; simp [List.getD_eq_getElem?_getD, List.getElem?_eq_getElem h]
theorem pZ (x : dY) (a : Int) (hx : fy x) (h0 : 0 ≤ a) (h1 : a ≤ 1048576) : ∃ r, dL.f x.f0 x.f1 a = some r ∧ (r = -1 ∨ (0 ≤ r ∧ r ≤ a ∧ fq x)) := by
 unfold fy at hx
 unfold fq
 unfold dL.f
 rw [bx (x := a - (x.f0.size : Int)) (by omega) (by omega)]; by_cases h20 : a - (x.f0.size : Int) < 0
 ·rw [if_pos h20]; exact ⟨_, rfl, .inl rfl⟩
 rw [if_neg h20]; rw [bx (x := a - (x.f0.size : Int) - (x.f1.size : Int)) (by omega) (by omega)]; by_cases h21 : a - (x.f0.size : Int) - (x.f1.size : Int) < 0
 ·rw [if_pos h21]; exact ⟨_, rfl, .inl rfl⟩
 rw [if_neg h21]; exact ⟨_, rfl, .inr ⟨by omega, by omega, by omega⟩⟩
theorem oG (l : List dY) (hl : l.length ≤ 1048576) (hg : ∀ x ∈ l, fy x) : ∀ (d i : Nat) (a : Int), i + d = l.length → 0 ≤ a → a ≤ 1048576 →
  ∃ r, Ev (fun k => bM.l0 k l a (i : Int)) r ∧ (r = -1 ∨ (0 ≤ r ∧ r ≤ a ∧ ∀ x ∈ l.drop i, fq x)) := by
 intro d; induction d with
 | zero =>
  intro i a hi h0 h1; refine ⟨a, Ev.step (fun k => bM.l0.eq_2 _ _ _ _) ?_, .inr ⟨h0, Int.le_refl _, fun x hx => ?_⟩⟩
  ·simp only [if_neg (show ¬ ((i : Int) < (l.length : Int)) by omega)]; exact Ev.now _
  ·rw [List.drop_of_length_le (by omega)] at hx; cases hx
 | succ d ih =>
  intro i a hi h0 h1; obtain ⟨r1, hr1, hc⟩ := pZ l[i] a (hg _ (List.getElem_mem _)) h0 h1; rcases hc with hc | ⟨hc0, hc1, hc2⟩
  ·refine ⟨-1, Ev.step (fun k => bM.l0.eq_2 _ _ _ _) ?_, .inl rfl⟩; simp only [if_pos (show ((i : Int) < (l.length : Int)) by omega), if_pos (show 0 ≤ (i : Int) by omega), ky l i (by omega), hr1, Option.bind_some, hc]; exact Ev.now _
  ·obtain ⟨r, hr, hq⟩ := ih (i + 1) r1 (by omega) hc0 (by omega); refine ⟨r, Ev.step (fun k => bM.l0.eq_2 _ _ _ _) ?_, ?_⟩
   ·simp only [if_pos (show ((i : Int) < (l.length : Int)) by omega), if_pos (show 0 ≤ (i : Int) by omega), ky l i (by omega), hr1, Option.bind_some, if_neg (show ¬ r1 < 0 by omega), b9 i (by omega)]; exact hr
   ·rcases hq with hq | ⟨q0, q1, q2⟩
    ·exact .inl hq
    ·refine .inr ⟨q0, by omega, fun x hx => ?_⟩; rcases (dX (show i < l.length by omega)).1 hx with hx | hx
     ·rw [hx]; exact hc2
     ·exact q2 x hx
theorem oK (l : List dY) (hl : l.length ≤ 9223372036854775807) (hg : ∀ x ∈ l, fy x) (a : Int) (h0 : 0 ≤ a) (h1 : a ≤ 1048576) :
  ∃ r, Ev (fun k => bM.f k l a) r ∧ (r = -1 ∨ (0 ≤ r ∧ r ≤ a ∧ l.length ≤ 1048576 ∧ ∀ x ∈ l, fq x)) := by
 simp only [bM.f, bx (x := a - (l.length : Int)) (by omega) (by omega)]; by_cases h2 : a - (l.length : Int) < 0
 ·simp only [if_pos h2]; exact ⟨-1, Ev.now _, .inl rfl⟩
 ·simp only [if_neg h2]; obtain ⟨r, hr, hq⟩ := oG l (by omega) hg l.length 0 (a - (l.length : Int)) (by omega) (by omega) (by omega); refine ⟨r, hr, ?_⟩; rcases hq with hq | ⟨q0, q1, q2⟩
  ·exact .inl hq
  ·exact .inr ⟨q0, by omega, by omega, q2⟩
theorem qJ (key : ByteArray) (l : List dY) (hk : key.size ≤ 9223372036854775807) (hl : l.length ≤ 9223372036854775807) (hg : ∀ x ∈ l, fy x) (a : Int) (h0 : 0 ≤ a) (h1 : a ≤ 1048576) :
  ∃ r, Ev (fun k => ea.f k key l a) r ∧ (r = -1 ∨ (0 ≤ r ∧ r ≤ a ∧ key.size ≤ 1048576 ∧ l.length ≤ 1048576 ∧ ∀ x ∈ l, fq x)) := by
 simp only [ea.f, bx (x := a - (key.size : Int)) (by omega) (by omega)]; by_cases h2 : a - (key.size : Int) < 0
 ·simp only [if_pos h2]; exact ⟨-1, Ev.now _, .inl rfl⟩
 ·simp only [if_neg h2]; obtain ⟨r, hr, hq⟩ := oK l hl hg (a - (key.size : Int)) (by omega) (by omega); rcases hq with hq | ⟨q0, q1, q2, q3⟩
  ·refine ⟨-1, Ev.bind hr ?_, .inl rfl⟩; simp only [hq, if_pos (show (-1 : Int) < 0 by omega)]; exact Ev.now _
  ·refine ⟨r, Ev.bind hr ?_, .inr ⟨q0, by omega, by omega, q2, q3⟩⟩; simp only [if_neg (show ¬ r < 0 by omega)]; exact Ev.now _
def jY (x : dS) : Prop := x.f1.f0.size ≤ 9223372036854775807 ∧ x.f1.f1.length ≤ 9223372036854775807 ∧ ∀ c ∈ x.f1.f1, fy c
theorem ru (x : dS) (a : Int) (hx : jY x) (h0 : 0 ≤ a) (h1 : a ≤ 1048576) : ∃ r, Ev (fun k => eh.f k x.f0 x.f1.f0 x.f1.f1 a) r ∧ (r = -1 ∨ (0 ≤ r ∧ r ≤ a ∧ fA x)) := by
 obtain ⟨w0, w1, w2⟩ := hx; simp only [eh.f]; obtain ⟨r, hr, hq⟩ := qJ x.f1.f0 x.f1.f1 w0 w1 w2 a h0 h1; rcases hq with hq | ⟨q0, q1, q2, q3, q4⟩
 ·exact ⟨-1, Ev.bind hr (by simp only [if_pos (show r < 0 by omega)]; exact Ev.now _), .inl rfl⟩
 ·exact ⟨r, Ev.bind hr (by simp only [if_neg (show ¬ r < 0 by omega)]; exact Ev.now _), .inr ⟨q0, q1, q2, q3, q4⟩⟩
theorem qg (l : List dS) (hl : l.length ≤ 1048576) (hg : ∀ x ∈ l, jY x) : ∀ (d i : Nat) (a : Int), i + d = l.length → 0 ≤ a → a ≤ 1048576 →
  ∃ r, Ev (fun k => bS.l0 k l a (i : Int)) r ∧ (r = -1 ∨ (0 ≤ r ∧ r ≤ a ∧ ∀ x ∈ l.drop i, fA x)) := by
 intro d; induction d with
 | zero =>
  intro i a hi h0 h1; refine ⟨a, Ev.step (fun k => bS.l0.eq_2 _ _ _ _) ?_, .inr ⟨h0, Int.le_refl _, fun x hx => ?_⟩⟩
  ·simp only [if_neg (show ¬ ((i : Int) < (l.length : Int)) by omega)]; exact Ev.now _
  ·rw [List.drop_of_length_le (by omega)] at hx; cases hx
 | succ d ih =>
  intro i a hi h0 h1; obtain ⟨r1, hr1, hc⟩ := ru l[i] a (hg _ (List.getElem_mem _)) h0 h1; rcases hc with hc | ⟨hc0, hc1, hc2⟩
  ·refine ⟨-1, Ev.step (fun k => bS.l0.eq_2 _ _ _ _) ?_, .inl rfl⟩; simp only [if_pos (show ((i : Int) < (l.length : Int)) by omega), if_pos (show 0 ≤ (i : Int) by omega), mq l i (by omega)]; refine Ev.bind hr1 ?_; simp only [if_pos (show r1 < 0 by omega)]; exact Ev.now _
  ·obtain ⟨r, hr, hq⟩ := ih (i + 1) r1 (by omega) hc0 (by omega); refine ⟨r, Ev.step (fun k => bS.l0.eq_2 _ _ _ _) ?_, ?_⟩
   ·simp only [if_pos (show ((i : Int) < (l.length : Int)) by omega), if_pos (show 0 ≤ (i : Int) by omega), mq l i (by omega), b9 i (by omega)]; refine Ev.bind hr1 ?_; simp only [if_neg (show ¬ r1 < 0 by omega)]; exact hr
   ·rcases hq with hq | ⟨q0, q1, q2⟩
    ·exact .inl hq
    ·refine .inr ⟨q0, by omega, fun x hx => ?_⟩; rcases (dX (show i < l.length by omega)).1 hx with hx | hx
     ·rw [hx]; exact hc2
     ·exact q2 x hx
theorem pT (l : List dS) (hl : l.length ≤ 9223372036854775807) (hg : ∀ x ∈ l, jY x) (a : Int) (h0 : 0 ≤ a) (h1 : a ≤ 1048576) :
  ∃ r, Ev (fun k => bS.f k l a) r ∧ (r = -1 ∨ (0 ≤ r ∧ r ≤ a ∧ l.length ≤ 1048576 ∧ ∀ x ∈ l, fA x)) := by
 simp only [bS.f, bx (x := a - (l.length : Int)) (by omega) (by omega)]; by_cases h2 : a - (l.length : Int) < 0
 ·simp only [if_pos h2]; exact ⟨-1, Ev.now _, .inl rfl⟩
 ·simp only [if_neg h2]; obtain ⟨r, hr, hq⟩ := qg l (by omega) hg l.length 0 (a - (l.length : Int)) (by omega) (by omega) (by omega); refine ⟨r, hr, ?_⟩; rcases hq with hq | ⟨q0, q1, q2⟩
  ·exact .inl hq
  ·exact .inr ⟨q0, by omega, by omega, q2⟩
theorem n0 (F : List dU) (R : List dS) (E : List dQ) (n : Int) (hF : F.length ≤ 9223372036854775807 ∧ ∀ x ∈ F, fu x) (hR : R.length ≤ 9223372036854775807 ∧ ∀ x ∈ R, jY x) (hE : E.length ≤ 9223372036854775807 ∧ ∀ x ∈ E, gL x) :
  ∃ r, Ev (fun k => dA.f k F R E n 1048576) r ∧ (r = -1 ∨ (0 ≤ r ∧ oP F R E)) := by
 simp only [dA.f]; obtain ⟨r0, h0, q0⟩ := nw F hF.1 hF.2 1048576 (by omega) (by omega); rcases q0 with q0 | ⟨a0, a1, a2, a3⟩
 ·exact ⟨-1, Ev.bind h0 (by simp only [if_pos (show r0 < 0 by omega)]; exact Ev.now _), .inl rfl⟩
 obtain ⟨r1, h1, q1⟩ := pT R hR.1 hR.2 r0 a0 (by omega); rcases q1 with q1 | ⟨b0, b1, b2, b3⟩
 ·refine ⟨-1, Ev.bind h0 ?_, .inl rfl⟩; simp only [if_neg (show ¬ r0 < 0 by omega)]; exact Ev.bind h1 (by simp only [if_pos (show r1 < 0 by omega)]; exact Ev.now _)
 obtain ⟨r2, h2, q2⟩ := ni E hE.1 hE.2 r1 b0 (by omega); rcases q2 with q2 | ⟨c0, c1, c2, c3⟩
 ·refine ⟨-1, Ev.bind h0 ?_, .inl rfl⟩; simp only [if_neg (show ¬ r0 < 0 by omega)]; refine Ev.bind h1 ?_; simp only [if_neg (show ¬ r1 < 0 by omega)]; exact Ev.bind h2 (by simp only [if_pos (show r2 < 0 by omega)]; exact Ev.now _)
 ·refine ⟨r2, Ev.bind h0 ?_, .inr ⟨c0, ⟨a2, a3⟩, ⟨b2, b3⟩, ⟨c2, c3⟩⟩⟩; simp only [if_neg (show ¬ r0 < 0 by omega)]; refine Ev.bind h1 ?_; simp only [if_neg (show ¬ r1 < 0 by omega)]; exact Ev.bind h2 (by simp only [if_neg (show ¬ r2 < 0 by omega)]; exact Ev.now _)
theorem dV {α : Type} (l m : List α) (i : Nat) (v : α) (hl : i < l.length) (hm : i < m.length) (hv : m[i] = v) (h : l.take i = m.take i) : (l.set i v).take (i + 1) = m.take (i + 1) := by
 rw [List.take_add_one, List.take_add_one, List.take_set_of_le (Nat.le_refl _), h]; congr 1
 rw [List.getElem?_set_self hl, List.getElem?_eq_getElem hm, hv]
theorem nb (l : List dU) (hn : l.length ≤ 1048576) : ∀ (d i : Nat) (acc : List S92), i + d = l.length → acc.length = l.length → acc.take i = (l.map io).take i →
  Ev (fun k => bE.l0 k l acc (i : Int)) (l.map io) := by
 intro d; induction d with
 | zero =>
  intro i acc hi hl ht; refine Ev.step (fun k => bE.l0.eq_2 _ _ _ _) ?_; simp only [if_neg (show ¬ ((i : Int) < (l.length : Int)) by omega)]; have : acc = l.map io := by rw [List.take_of_length_le (by omega), List.take_of_length_le (by rw [List.length_map]; omega)] at ht; exact ht
  rw [this]; exact Ev.now _
 | succ d ih =>
  intro i acc hi hl ht; refine Ev.step (fun k => bE.l0.eq_2 _ _ _ _) ?_; simp only [if_pos (show ((i : Int) < (l.length : Int)) by omega), if_pos (show 0 ≤ (i : Int) by omega), en.f, Option.bind_some, if_pos (show ((i : Int) < (acc.length : Int)) by omega), b9 i (by omega), bJ, i6 l i (by omega)]; exact ih (i + 1) _ (by omega) (by simp [hl]) (dV _ _ _ _ (by omega) (by rw [List.length_map]; omega) (by rw [List.getElem_map]; rfl) ht)
theorem m3 (l : List dU) (hn : l.length ≤ 1048576) : Ev (fun k => bE.f k l) (l.map io) := by
 simp only [bE.f, if_pos (show 0 ≤ (l.length : Int) by omega), bJ]; refine Ev.congr (f := fun k => bE.l0 k l (List.replicate l.length z92) 0) (fun k => if_pos (by omega)) ?_; exact nb l hn l.length 0 _ (by omega) (by simp) rfl
theorem od (l : List Int) (hn : l.length ≤ 1048576) : Ev (fun k => ca.f k l) l := by
 have main : ∀ (d i : Nat) (acc : List Int), i + d = l.length → acc.length = l.length → acc.take i = l.take i → Ev (fun k => ca.l0 k l acc (i : Int)) l := by
  intro d; induction d with
  | zero =>
   intro i acc hi hl ht; refine Ev.step (fun k => ca.l0.eq_2 _ _ _ _) ?_; simp only [if_neg (show ¬ ((i : Int) < (l.length : Int)) by omega)]; have : acc = l := by rw [List.take_of_length_le (by omega), List.take_of_length_le (by omega)] at ht; exact ht
   rw [this]; exact Ev.now _
  | succ d ih =>
   intro i acc hi hl ht; refine Ev.step (fun k => ca.l0.eq_2 _ _ _ _) ?_; simp only [if_pos (show ((i : Int) < (l.length : Int)) by omega), if_pos (show 0 ≤ (i : Int) by omega), if_pos (show ((i : Int) < (acc.length : Int)) by omega), b9 i (by omega), bJ, jl l i (by omega)]; exact ih (i + 1) _ (by omega) (by simp [hl]) (dV _ _ _ _ (by omega) (by omega) rfl ht)
 simp only [ca.f, if_pos (show 0 ≤ (l.length : Int) by omega), bJ]; refine Ev.congr (f := fun k => ca.l0 k l (List.replicate l.length 0) 0) (fun k => if_pos (by omega)) ?_; exact main l.length 0 _ (by omega) (by simp) rfl
theorem pC (x : eC) (hx : eQ x) : Ev (fun k => d9.f k x.f0 x.f1) ((iD x).f0, (iD x).f1) := by
 simp only [d9.f]; exact Ev.bind (od x.f1 hx) (Ev.now _)
theorem oC (l : List eC) (hn : l.length ≤ 1048576) (hs : ∀ x ∈ l, eQ x) : ∀ (d i : Nat) (acc : List S50), i + d = l.length → acc.length = l.length → acc.take i = (l.map iD).take i →
  Ev (fun k => bW.l0 k l acc (i : Int)) (l.map iD) := by
 intro d; induction d with
 | zero =>
  intro i acc hi hl ht; refine Ev.step (fun k => bW.l0.eq_2 _ _ _ _) ?_; simp only [if_neg (show ¬ ((i : Int) < (l.length : Int)) by omega)]; have : acc = l.map iD := by rw [List.take_of_length_le (by omega), List.take_of_length_le (by rw [List.length_map]; omega)] at ht; exact ht
  rw [this]; exact Ev.now _
 | succ d ih =>
  intro i acc hi hl ht; refine Ev.step (fun k => bW.l0.eq_2 _ _ _ _) ?_; simp only [if_pos (show ((i : Int) < (l.length : Int)) by omega), if_pos (show 0 ≤ (i : Int) by omega), b9 i (by omega), bJ, ke l i (by omega)]; refine Ev.bind (pC l[i] (hs _ (List.getElem_mem _))) ?_; simp only [if_pos (show ((i : Int) < (acc.length : Int)) by omega)]; exact ih (i + 1) _ (by omega) (by simp [hl]) (dV _ _ _ _ (by omega) (by rw [List.length_map]; omega) (by simp [iD]) ht)
theorem oO (l : List eC) (hn : l.length ≤ 1048576) (hs : ∀ x ∈ l, eQ x) : Ev (fun k => bW.f k l) (l.map iD) := by
 simp only [bW.f, if_pos (show 0 ≤ (l.length : Int) by omega), bJ]; refine Ev.congr (f := fun k => bW.l0 k l (List.replicate l.length z50) 0) (fun k => if_pos (by omega)) ?_; exact oC l hn hs l.length 0 _ (by omega) (by simp) rfl
theorem oW (x : dQ) (hx : eK x) : Ev (fun k => dP.f k x.f0 x.f1 x.f2) ((fB x).f0, (fB x).f1, (fB x).f2) := by
 simp only [dP.f]; exact Ev.bind (oO x.f2 hx.1 hx.2) (Ev.now _)
theorem nk (l : List dQ) (hn : l.length ≤ 1048576) (hs : ∀ x ∈ l, eK x) : ∀ (d i : Nat) (acc : List S76), i + d = l.length → acc.length = l.length → acc.take i = (l.map fB).take i →
  Ev (fun k => bF.l0 k l acc (i : Int)) (l.map fB) := by
 intro d; induction d with
 | zero =>
  intro i acc hi hl ht; refine Ev.step (fun k => bF.l0.eq_2 _ _ _ _) ?_; simp only [if_neg (show ¬ ((i : Int) < (l.length : Int)) by omega)]; have : acc = l.map fB := by rw [List.take_of_length_le (by omega), List.take_of_length_le (by rw [List.length_map]; omega)] at ht; exact ht
  rw [this]; exact Ev.now _
 | succ d ih =>
  intro i acc hi hl ht; refine Ev.step (fun k => bF.l0.eq_2 _ _ _ _) ?_; simp only [if_pos (show ((i : Int) < (l.length : Int)) by omega), if_pos (show 0 ≤ (i : Int) by omega), b9 i (by omega), bJ, jt l i (by omega)]; refine Ev.bind (oW l[i] (hs _ (List.getElem_mem _))) ?_; simp only [if_pos (show ((i : Int) < (acc.length : Int)) by omega)]; exact ih (i + 1) _ (by omega) (by simp [hl]) (dV _ _ _ _ (by omega) (by rw [List.length_map]; omega) (by simp [fB]) ht)
theorem m7 (l : List dQ) (hn : l.length ≤ 1048576) (hs : ∀ x ∈ l, eK x) : Ev (fun k => bF.f k l) (l.map fB) := by
 simp only [bF.f, if_pos (show 0 ≤ (l.length : Int) by omega), bJ]; refine Ev.congr (f := fun k => bF.l0 k l (List.replicate l.length z76) 0) (fun k => if_pos (by omega)) ?_; exact nk l hn hs l.length 0 _ (by omega) (by simp) rfl
theorem n5 (l : List dY) (hn : l.length ≤ 1048576) : ∀ (d i : Nat) (acc : List S86), i + d = l.length → acc.length = l.length → acc.take i = (l.map kf).take i →
  Ev (fun k => bU.l0 k l acc (i : Int)) (l.map kf) := by
 intro d; induction d with
 | zero =>
  intro i acc hi hl ht; refine Ev.step (fun k => bU.l0.eq_2 _ _ _ _) ?_; simp only [if_neg (show ¬ ((i : Int) < (l.length : Int)) by omega)]; have : acc = l.map kf := by rw [List.take_of_length_le (by omega), List.take_of_length_le (by rw [List.length_map]; omega)] at ht; exact ht
  rw [this]; exact Ev.now _
 | succ d ih =>
  intro i acc hi hl ht; refine Ev.step (fun k => bU.l0.eq_2 _ _ _ _) ?_; simp only [if_pos (show ((i : Int) < (l.length : Int)) by omega), if_pos (show 0 ≤ (i : Int) by omega), eR.f, Option.bind_some, if_pos (show ((i : Int) < (acc.length : Int)) by omega), b9 i (by omega), bJ, ky l i (by omega)]; exact ih (i + 1) _ (by omega) (by simp [hl]) (dV _ _ _ _ (by omega) (by rw [List.length_map]; omega) (by rw [List.getElem_map]; rfl) ht)
theorem oS (l : List dY) (hn : l.length ≤ 1048576) : Ev (fun k => bU.f k l) (l.map kf) := by
 simp only [bU.f, if_pos (show 0 ≤ (l.length : Int) by omega), bJ]; refine Ev.congr (f := fun k => bU.l0 k l (List.replicate l.length z86) 0) (fun k => if_pos (by omega)) ?_; exact n5 l hn l.length 0 _ (by omega) (by simp) rfl
theorem rt (key : ByteArray) (l : List dY) (hn : l.length ≤ 1048576) : Ev (fun k => eJ.f k key l) (key, l.map kf) := by
 simp only [eJ.f]; exact Ev.bind (oS l hn) (Ev.now _)
theorem qE (x : dS) (hx : fA x) : Ev (fun k => eH.f k x.f0 x.f1.f0 x.f1.f1) ((k8 x).f0, (k8 x).f1.f0, (k8 x).f1.f1) := by
 simp only [eH.f]; exact Ev.bind (rt x.f1.f0 x.f1.f1 hx.2.1) (Ev.now _)
theorem qq (l : List dS) (hn : l.length ≤ 1048576) (hs : ∀ x ∈ l, fA x) : ∀ (d i : Nat) (acc : List S46), i + d = l.length → acc.length = l.length → acc.take i = (l.map k8).take i →
  Ev (fun k => cg.l0 k l acc (i : Int)) (l.map k8) := by
 intro d; induction d with
 | zero =>
  intro i acc hi hl ht; refine Ev.step (fun k => cg.l0.eq_2 _ _ _ _) ?_; simp only [if_neg (show ¬ ((i : Int) < (l.length : Int)) by omega)]; have : acc = l.map k8 := by rw [List.take_of_length_le (by omega), List.take_of_length_le (by rw [List.length_map]; omega)] at ht; exact ht
  rw [this]; exact Ev.now _
 | succ d ih =>
  intro i acc hi hl ht; refine Ev.step (fun k => cg.l0.eq_2 _ _ _ _) ?_; simp only [if_pos (show ((i : Int) < (l.length : Int)) by omega), if_pos (show 0 ≤ (i : Int) by omega), b9 i (by omega), bJ, mq l i (by omega)]; refine Ev.bind (qE l[i] (hs _ (List.getElem_mem _))) ?_; simp only [if_pos (show ((i : Int) < (acc.length : Int)) by omega)]; exact ih (i + 1) _ (by omega) (by simp [hl]) (dV _ _ _ _ (by omega) (by rw [List.length_map]; omega) (by simp [k8]) ht)
theorem qj (l : List dS) (hn : l.length ≤ 1048576) (hs : ∀ x ∈ l, fA x) : Ev (fun k => cg.f k l) (l.map k8) := by
 simp only [cg.f, if_pos (show 0 ≤ (l.length : Int) by omega), bJ]; refine Ev.congr (f := fun k => cg.l0 k l (List.replicate l.length z46) 0) (fun k => if_pos (by omega)) ?_; exact qq l hn hs l.length 0 _ (by omega) (by simp) rfl
theorem ov (F : List dU) (R : List dS) (E : List dQ) (n : Int) (h : oP F R E) : Ev (fun k => cE.f k F R E n) (F.map io, R.map k8, E.map fB, n) := by
 simp only [cE.f]; refine Ev.bind (m3 F h.1.1) ?_; refine Ev.bind (qj R h.2.1.1 h.2.1.2) ?_; refine Ev.bind (m7 E h.2.2.1 h.2.2.2) ?_; exact Ev.now _
theorem pm : ∀ (n : Nat) (a : Int), 0 ≤ a → a + n ≤ 4611686018427387904 → m9 n a = a + n
 | 0, a, _, _ => by simp [m9]
 | n + 1, a, h0, h1 => by
  rw [m9, bx (by omega) (by omega), pm n (a + 1) (by omega) (by omega)]; omega
theorem ry : ∀ (ns : List Nat) (a : Int), (∀ x ∈ ns, x ≤ 1048576) → 0 ≤ a → a + ns.length * 1048577 ≤ 4611686018427387904 → a ≤ mkP ns a ∧ mkP ns a ≤ a + ns.length * 1048577
 | [], a, _, _, _ => by simp [mkP]
 | n :: ns, a, hm, h0, h1 => by
  have hn := hm n (by simp); rw [List.length_cons] at h1; rw [mkP, bx (by omega) (by omega), pm n (a + 1) (by omega) (by omega), List.length_cons]; have := ry ns (a + 1 + n) (fun x hx => hm x (List.mem_cons_of_mem _ hx)) (by omega) (by omega); omega
theorem qG : ∀ (ns : List (List Nat)) (a : Int), (∀ x ∈ ns, x.length ≤ 1048576 ∧ ∀ y ∈ x, y ≤ 1048576) → 0 ≤ a → a + ns.length * 1099512676354 ≤ 4611686018427387904 → ∃ r, Ev (fun k => mkE k ns a) r ∧ a ≤ r ∧ r ≤ a + ns.length * 1099512676354
 | [], a, _, _, _ => ⟨a, by simp only [mkE]; exact Ev.now _, by omega, by simp⟩
 | n :: ns, a, hm, h0, h1 => by
  obtain ⟨hn, hy⟩ := hm n (by simp); rw [List.length_cons] at h1 ⊢; obtain ⟨p1, p2⟩ := ry n (a + 1 + 1) hy (by omega) (by omega); obtain ⟨r, hr, h2, h3⟩ := qG ns (mkP n (a + 1 + 1)) (fun x hx => hm x (List.mem_cons_of_mem _ hx)) (by omega) (by omega); refine ⟨r, ?_, by omega, by omega⟩; simp only [mkE]; rw [bx (x := a + 1) (by omega) (by omega), bx (x := a + 1 + 1) (by omega) (by omega)]; refine Ev.bind (dt a h0 (by omega)) ?_; exact Ev.bind (dt (a + 1) (by omega) (by omega)) hr
theorem qS : ∀ (n : Nat) (a : Int), 0 ≤ a → a + 3 * n ≤ 4611686018427387904 → Ev (fun k => mkF k n a) (a + 3 * n)
 | 0, a, _, _ => by simp only [mkF, Int.natCast_zero, Int.mul_zero, Int.add_zero]; exact Ev.now _
 | n + 1, a, h0, h1 => by
  simp only [mkF]; refine Ev.bind (dt a h0 (by omega)) ?_; rw [bx (x := a + 1) (by omega) (by omega), bx (x := a + 1 + 1) (by omega) (by omega), bx (x := a + 1 + 1 + 1) (by omega) (by omega)]; have := qS n (a + 1 + 1 + 1) (by omega) (by omega); rwa [show a + 1 + 1 + 1 + 3 * (n : Int) = a + 3 * ((n + 1 : Nat) : Int) by omega] at this
theorem rh : ∀ (n : Nat) (a : Int), 0 ≤ a → a + 2 * n ≤ 4611686018427387904 → Ev (fun k => mkC k n a) (a + 2 * n)
 | 0, a, _, _ => by simp only [mkC, Int.natCast_zero, Int.mul_zero, Int.add_zero]; exact Ev.now _
 | n + 1, a, h0, h1 => by
  simp only [mkC]; refine Ev.bind (dt a h0 (by omega)) ?_; rw [bx (x := a + 1) (by omega) (by omega), bx (x := a + 1 + 1) (by omega) (by omega)]; refine Ev.bind (dt (a + 1) (by omega) (by omega)) ?_; have := rh n (a + 1 + 1) (by omega) (by omega); rwa [show a + 1 + 1 + 2 * (n : Int) = a + 2 * ((n + 1 : Nat) : Int) by omega] at this
theorem rP : ∀ (ns : List Nat) (a : Int), (∀ x ∈ ns, x ≤ 1048576) → 0 ≤ a → a + ns.length * 2097154 ≤ 4611686018427387904 → ∃ r, Ev (fun k => mkR k ns a) r ∧ a ≤ r ∧ r ≤ a + ns.length * 2097154
 | [], a, _, _, _ => ⟨a, by simp only [mkR]; exact Ev.now _, by omega, by simp⟩
 | n :: ns, a, hm, h0, h1 => by
  have hn := hm n (by simp); rw [List.length_cons] at h1 ⊢; obtain ⟨r, hr, h2, h3⟩ := rP ns (a + 1 + 1 + 2 * n) (fun x hx => hm x (List.mem_cons_of_mem _ hx)) (by omega) (by omega); refine ⟨r, ?_, by omega, by omega⟩; simp only [mkR]; rw [bx (x := a + 1) (by omega) (by omega), bx (x := a + 1 + 1) (by omega) (by omega)]; refine Ev.bind (dt (a + 1) (by omega) (by omega)) ?_; exact Ev.bind (rh n (a + 1 + 1) (by omega) (by omega)) hr
theorem qZ {F : List S92} {R : List S46} {E : List S76} (hz : fI F R E) (n : Int) : ∃ r, Ev (fun k => dH.f k F R E n 1) r ∧ 1 ≤ r := by
 have hf := hz.f; have hr := hz.r; have he := hz.e; obtain ⟨b, h1, h2, h3⟩ := rP (R.map fun x => x.f1.f1.length) (1 + 3 * F.length) (fun x hx => by obtain ⟨y, hy, rfl⟩ := List.mem_map.1 hx; exact (hz.rs y hy).2.1) (by omega) (by rw [List.length_map]; omega); rw [List.length_map] at h3; obtain ⟨c, g1, g2, g3⟩ := qG (E.map fun x => x.f2.map fun p => p.f1.length) b (fun x hx => by
  obtain ⟨y, hy, rfl⟩ := List.mem_map.1 hx; exact ⟨by rw [List.length_map]; exact (hz.es y hy).1, fun z h => by obtain ⟨q, hq, rfl⟩ := List.mem_map.1 h; exact (hz.es y hy).2 q hq⟩) (by omega) (by rw [List.length_map]; omega)
 refine ⟨c, ?_, by omega⟩; simp only [dH.f, mkI]; exact Ev.bind (qS F.length 1 (by omega) (by omega)) (Ev.bind h1 g1)
theorem FnExactIndexDoc : ai.PureX := by
 intro F R E n key hF hR hE hn _; have hm : maxLen = 9223372036854775807 := rfl; refine Ev.rounds (g := fun k => ai.f k F R E n key) ?_; simp only [ai.f]; by_cases hg : (key.size : Int) > 1048576
 ·simp only [if_pos hg]; exact Ev.now _
 simp only [if_neg hg]; obtain ⟨r, hr, hq⟩ := n0 F R E n ⟨by omega, fun x hx => by have := hF.2 x hx; unfold fu; have := this.1; omega⟩
  ⟨by omega, fun x hx => by
   obtain ⟨_, b, c, d⟩ := hR.2 x hx; exact ⟨b, c, fun y hy => by have := d y hy; unfold fy; exact ⟨by have := this.1; omega, by have := this.2; omega⟩⟩⟩
  ⟨by omega, fun x hx => by
   obtain ⟨a, b, c, d⟩ := hE.2 x hx; exact ⟨a, b, c, fun y hy => (d y hy).2.1⟩⟩
 refine Ev.bind hr ?_; rcases hq with hq | ⟨q0, q1⟩
 ·simp only [hq, if_pos (show (-1 : Int) < 0 by omega)]; exact Ev.now _
 simp only [if_neg (show ¬ r < 0 by omega)]; have hz := qp q1; have hi := ov F R E n q1; have hs := jp hz n key; have hd := jf hz n key; have hc := qe hz n key; obtain ⟨K, C, b, hK⟩ : ∃ K C b, kc (F.map io) (R.map k8) (E.map fB) n key = (K, C, b) := ⟨_, _, _, rfl⟩; rw [hK] at hs hd hc; have hc' : C.length ≤ 1048576 := hc; obtain ⟨m, hM, h1⟩ := qZ hz n; refine Ev.bind hi ?_; refine Ev.bind hs ?_; refine Ev.bind hi ?_; refine Ev.bind hd ?_; refine Ev.bind (f5 _ _ (by show C.length < _; omega)) ?_; simp only [bne_self_eq_false, if_true]; refine Ev.step (fun k => ai.j0.eq_2 _ _ _ _ _ _ _ _ _ _ _ _ _ _ _ _ _) ?_; simp only [if_neg (show ¬ (false = true) by decide)]; refine Ev.bind hi ?_; refine Ev.bind (mz hz n) ?_; simp only [if_true]; refine Ev.bind hM ?_; simp only [if_neg (show ¬ m < 0 by omega)]; refine Ev.bind (f5 _ _ (by show C.length < _; omega)) ?_; simp only [bne_self_eq_false, if_true]; refine Ev.step (fun k => ai.j1.eq_2 _ _ _ _ _ _ _ _ _ _ _ _) ?_; simp only [if_neg (show ¬ (false = true) by decide)]; refine Ev.bind (n3 K C (by omega)) ?_; refine Ev.bind (kk K C.length (by omega)) ?_; simp only [if_neg (show ¬ (1 + 2 * (C.length : Int) < 0) by omega), if_true]; refine Ev.bind hi ?_; refine Ev.bind hd ?_; refine Ev.bind (f5 _ _ (by show C.length < _; omega)) ?_; simp only [bne_self_eq_false, if_true]; refine Ev.step (fun k => ai.j2.eq_2 _ _ _ _ _) ?_; simp only [if_neg (show ¬ (false = true) by decide)]; refine Ev.bind (kk K C.length (by omega)) ?_; simp only [if_neg (show ¬ (1 + 2 * (C.length : Int) < 0) by omega), if_true]; exact Ev.now _
end Go.Proofs.YtnjjdojonflckaaGreatDoor.Pure
