/- The plain law of FnExactIndexPosts: whatever the input, the printed function of this law answers true after enough rounds; conditions: only the sizes and kinds that the law's Pure states. -/
import Derived.Test.YtnjjdojonflckaaGreatDoorXSFnExactIndexPosts
import Derived.Lib.IndexBytes
import Derived.Lib.SplitLaws
import Derived.Lib.AtoiAllCases
import Derived.Lib.ItoaNum
import Derived.Lib.Strings
namespace Go.Proofs.YtnjjdojonflckaaGreatDoor.Pure
open Go.RowKit Go.Proofs.YtnjjdojonflckaaGreatDoor.PFnExactIndexPosts Go.Proofs.YtnjjdojonflckaaGreatDoorW.PrintWords Go.Proofs.YtnjjdojonflckaaGreatDoorW.PrintLast Go.Proofs.YtnjjdojonflckaaGreatDoorW.PrintMore
set_option linter.unusedVariables false
set_option linter.unusedSimpArgs false
def fH (x : dF) : Prop := x.f0.size ≤ 9223372036854775807 ∧ x.f1.size ≤ 9223372036854775807
def iH (x : d9) : S92 := ⟨x.f0, x.f1, x.f2⟩
def fz (x : d9) : Prop := x.f0.size ≤ 9223372036854775807
theorem rF (l : List S50) (j : Nat) (h : j < l.length) : ak l (j : Int) = l[j] := by
 unfold ak; simp [List.getD_eq_getElem?_getD, List.getElem?_eq_getElem h]
theorem br {x : Int} (h0 : -9223372036854775808 ≤ x) (h1 : x ≤ 9223372036854775807) : wrap64 x = x := by unfold wrap64; omega
theorem bT (j : Nat) (h : j < 9223372036854775807) : wrap64 ((j : Int) + 1) = ((j + 1 : Nat) : Int) := by rw [br (by omega) (by omega)]; omega
theorem ow (a : List Int) (hn : a.length ≤ 1048576) : Ev (fun k => ca.f k a a) true := by
 have main : ∀ (d i : Nat), i + d = a.length → Ev (fun k => ca.l0 k a a (i : Int)) true := by
  intro d; induction d with
  | zero =>
   intro i hi; refine Ev.step (fun k => ca.l0.eq_2 _ _ _ _) ?_; simp only [if_neg (show ¬ ((i : Int) < (a.length : Int)) by omega)]; exact Ev.now _
  | succ d ih =>
   intro i hi; refine Ev.step (fun k => ca.l0.eq_2 _ _ _ _) ?_; simp only [if_pos (show ((i : Int) < (a.length : Int)) by omega), if_pos (show 0 ≤ (i : Int) by omega), bT i (by omega), if_true]; exact ih (i + 1) (by omega)
 simp only [ca.f, if_true]; exact main a.length 0 (by omega)
def oJ (x : S50) : Prop := x.f1.length ≤ 1048576
theorem oo (x : S50) (hx : oJ x) : Ev (fun k => el.f k x.f0 x.f1 x.f0 x.f1) true := by
 simp only [el.f, if_true]; refine Ev.bind (ow x.f1 hx) ?_; simp only [if_true]; exact Ev.now _
theorem iW (a : List S50) (hn : a.length ≤ 1048576) (hs : ∀ x ∈ a, oJ x) : Ev (fun k => aG.f k a a) true := by
 have main : ∀ (d i : Nat), i + d = a.length → Ev (fun k => aG.l0 k a a (i : Int)) true := by
  intro d; induction d with
  | zero =>
   intro i hi; refine Ev.step (fun k => aG.l0.eq_2 _ _ _ _) ?_; simp only [if_neg (show ¬ ((i : Int) < (a.length : Int)) by omega)]; exact Ev.now _
  | succ d ih =>
   intro i hi; refine Ev.step (fun k => aG.l0.eq_2 _ _ _ _) ?_; simp only [if_pos (show ((i : Int) < (a.length : Int)) by omega), if_pos (show 0 ≤ (i : Int) by omega), bT i (by omega), rF a i (by omega)]; refine Ev.bind (oo a[i] (hs _ (List.getElem_mem _))) ?_; simp only [if_true]; exact ih (i + 1) (by omega)
 simp only [aG.f, if_true]; exact main a.length 0 (by omega)
theorem cQ {α : Type} (l : List α) (j : Nat) (h : j < l.length) : l.drop j = l[j] :: l.drop (j + 1) := List.drop_eq_getElem_cons h
theorem gL (l : List S50) (j : Nat) (h : j < l.length) : ak l (j : Int) = l[j] := by
 unfold ak; simp [List.getD_eq_getElem?_getD, List.getElem?_eq_getElem h]
def go (a : Int) : Nat → List Int
 | 0 => []
 | n + 1 => a :: go (a + 1) n
theorem mA : ∀ (xs : List Int) (a : Int), 0 ≤ a → a + xs.length ≤ 4611686018427387904 → fq xs a = go a xs.length
 | [], _, _, _ => rfl
 | x :: xs, a, h0, h1 => by
  rw [List.length_cons] at h1; rw [fq, List.length_cons, go, br (x := a + 1) (by omega) (by omega), mA xs (a + 1) (by omega) (by omega)]
theorem kz : ∀ (n : Nat) (a : Int), 0 ≤ a → a + n ≤ 4611686018427387904 → j9 n a = a + n
 | 0, a, _, _ => by simp [j9]
 | n + 1, a, h0, h1 => by
  rw [j9, br (by omega) (by omega), kz n (a + 1) (by omega) (by omega)]; omega
theorem iF (l : List Int) (j : Nat) (h : j < l.length) : rd l (j : Int) = l[j] := by
 unfold rd; simp [List.getD_eq_getElem?_getD, List.getElem?_eq_getElem h]
theorem oC (l : List Int) (hn : l.length < 4611686018427387904) : ∀ (d i : Nat) (a : Int), i + d = l.length → 0 ≤ a → a + d < 4611686018427387904 → l.drop i = go a d →
  Ev (fun k => bN.l0 k l a (i : Int)) (a + d) := by
 intro d; induction d with
 | zero =>
  intro i a hi ha hb hd; refine Ev.step (fun k => bN.l0.eq_2 _ _ _ _) ?_; simp only [if_neg (show ¬ ((i : Int) < (l.length : Int)) by omega)]; simpa using Ev.now a
 | succ d ih =>
  intro i a hi ha hb hd; refine Ev.step (fun k => bN.l0.eq_2 _ _ _ _) ?_; rw [cQ l i (by omega)] at hd; simp only [go, List.cons.injEq] at hd; simp only [if_pos (show ((i : Int) < (l.length : Int)) by omega), if_pos (show 0 ≤ (i : Int) by omega), bT i (by omega), iF l i (by omega), if_pos hd.1, br (x := a + 1) (by omega) (by omega)]; have h := ih (i + 1) (a + 1) (by omega) (by omega) (by omega) hd.2; have e : a + 1 + (d : Int) = a + ((d + 1 : Nat) : Int) := by omega
  rw [← e]; exact h
theorem iu (a : Int) (n : Nat) : (go a n).length = n := by
 induction n generalizing a with
 | zero => rfl
 | succ n ih => simp [go, ih]
theorem nK (n : Nat) (a : Int) (hn : n < 1152921504606846976) (ha : 0 ≤ a) (hb : a < 1152921504606846976) : Ev (fun k => bN.f k (go a n) a) (a + n) :=
 oC (go a n) (by rw [iu]; omega) n 0 a (by rw [iu]; omega) ha (by omega) rfl
set_option maxRecDepth 20000 in
theorem jd (M : List S50) (hM : M.length ≤ 1099511627776) : ∀ (m : List S50) (i : Nat) (x : Int), M.drop i = eJ m x → i + m.length = M.length → 0 ≤ x → x + m.length * 1048577 ≤ 1152921504606846975 → (∀ p ∈ m, p.f1.length ≤ 1048576) →
  Ev (fun k => bA.l0 k M x (i : Int)) (mkP (m.map fun p => p.f1.length) x)
 | [], i, x, _, hi, _, _, _ => by
  rw [List.length_nil] at hi; refine Ev.step (fun k => bA.l0.eq_2 _ _ _ _) ?_; simp only [if_neg (show ¬ ((i : Int) < (M.length : Int)) by omega), List.map_nil, mkP]; exact Ev.now _
 | p :: m, i, x, hd, hi, h0, h1, hp => by
  rw [List.length_cons] at hi h1; have hil : i < M.length := by omega
  have hl := hp p (by simp); rw [cQ M i hil, eJ] at hd; obtain ⟨e1, e2⟩ := List.cons.inj hd; rw [br (x := x + 1) (by omega) (by omega), kz p.f1.length (x + 1) (by omega) (by omega)] at e2; rw [br (x := x + 1) (by omega) (by omega), mA p.f1 (x + 1) (by omega) (by omega)] at e1; refine Ev.step (fun k => bA.l0.eq_2 _ _ _ _) ?_; simp only [if_pos (show ((i : Int) < (M.length : Int)) by omega), if_pos (show 0 ≤ (i : Int) by omega), gL M i hil, e1, if_true, br (x := x + 1) (show -9223372036854775808 ≤ x + 1 by omega) (show x + 1 ≤ 9223372036854775807 by omega), bT i (by omega)]; refine Ev.bind (nK p.f1.length (x + 1) (by omega) (by omega) (by omega)) ?_; simp only [if_neg (show ¬ (x + 1 + (p.f1.length : Int) < 0) by omega)]; have := jd M hM m (i + 1) (x + 1 + p.f1.length) e2 (by omega) (by omega) (by omega) (fun q hq => hp q (List.mem_cons_of_mem _ hq)); rw [List.map_cons, mkP, br (x := x + 1) (by omega) (by omega), kz p.f1.length (x + 1) (by omega) (by omega)]; exact this
theorem mR (l : List S50) (hl : l.length ≤ 1048576) (hp : ∀ p ∈ l, p.f1.length ≤ 1048576) : Ev (fun k => bA.f k (eJ l 1) 1) (mkP (l.map fun p => p.f1.length) 1) := by
 have := jd (eJ l 1) (by rw [eE]; omega) l 0 1 rfl (by rw [eE]; omega) (by omega) (by omega) hp; exact this
structure f3 (F : List S92) (R : List S46) (E : List S76) : Prop where
 f : F.length ≤ 1048576
 fs : ∀ x ∈ F, x.f0.size ≤ 1048576
 r : R.length ≤ 1048576
 rs : ∀ x ∈ R, x.f1.f0.size ≤ 1048576 ∧ x.f1.f1.length ≤ 1048576 ∧ ∀ c ∈ x.f1.f1, c.f0.size ≤ 1048576 ∧ c.f1.size ≤ 1048576
 e : E.length ≤ 1048576
 es : ∀ x ∈ E, x.f2.length ≤ 1048576 ∧ ∀ p ∈ x.f2, p.f1.length ≤ 1048576
theorem jp {α : Type} {g : Nat → Option α} {a b : α} (h : Ev g a) (h' : Ev g b) : a = b := by
 obtain ⟨K, h⟩ := h; obtain ⟨K', h'⟩ := h'; exact Option.some.inj ((h (max K K') (by omega)).symm.trans (h' (max K K') (by omega)))
theorem gj {α : Type} {g : Nat → Option α} {r : α} (h : ∀ k, g k = some r) : Ev g r := ⟨0, fun k _ => h k⟩
theorem jU (l : List S90) (j : Nat) (h : j < l.length) : eM l (j : Int) = l[j] := by
 unfold eM; simp [List.getD_eq_getElem?_getD, List.getElem?_eq_getElem h]
theorem fg (s : ByteArray) : ∀ c ∈ am s, 0 ≤ c ∧ c ≤ 255 := by
 intro c hc; obtain ⟨b, _, rfl⟩ := List.mem_map.1 hc; have := b.toNat_lt; omega
theorem iV (l : List Int) (h : ∀ c ∈ l, 0 ≤ c ∧ c ≤ 255) : am (strOfNums l) = l := by
 unfold am
 rw [strOfNums_data, List.map_map]; conv => rhs; rw [← List.map_id l]
 apply List.map_congr_left
 intro c hc; have := h c hc; simp only [Function.comp, id]; rw [UInt8.toNat_ofNat']; omega
theorem nG (c : Int) (h : 0 ≤ c ∧ c ≤ 255) : 0 ≤ du c ∧ du c ≤ 255 := by
 unfold du; split <;> omega
def eF (s : ByteArray) : ByteArray := strOfNums ((am s).map du)
theorem l3 (s : ByteArray) : am (eF s) = (am s).map du := by
 unfold eF
 apply iV
 intro c hc; obtain ⟨b, hb, rfl⟩ := List.mem_map.1 hc; exact nG b (fg s b hb)
theorem kN (s : ByteArray) : (eF s).size = s.size := by
 rw [← bW, l3, List.length_map, bW]
theorem mW (s : ByteArray) (hn : s.size < 70368744177664) : fe.f s = some (eF s) := by
 unfold fe.f
 rw [if_pos (by omega)]; rfl
theorem dW {α : Type} {l : List α} {j : Nat} {n : α} (h : j < l.length) : n ∈ l.drop j ↔ n = l[j] ∨ n ∈ l.drop (j + 1) := by
 rw [List.drop_eq_getElem_cons h, List.mem_cons]
theorem j4 (s : ByteArray) : s.toList = s.data.toList := by
 exact ByteArray.toList_eq s
theorem toList_inj {a b : ByteArray} : a.toList = b.toList ↔ a = b := by
 rw [j4, j4]; constructor
 ·intro h; exact ByteArray.ext (Array.toList_inj.1 h)
 ·rintro rfl; rfl
theorem iY {α : Type} (d : α) (l : List α) (j : Nat) (h : j < l.length) : fl d l (j : Int) = l[j] := by
 unfold fl; simp [List.getD_eq_getElem?_getD, List.getElem?_eq_getElem h]
theorem lE (l : List ByteArray) (j : Nat) (h : j < l.length) : fl ByteArray.empty l (j : Int) = l[j] := iY _ l j h
open Classical in
theorem fm (l : List ByteArray) (n : ByteArray) (hn : l.length < 4611686018427387904) : ∀ (d i : Nat), i + d = l.length → ∃ r : Int, Ev (fun k => ay.l0 k l n (l.length : Int) (i : Int)) r ∧ decide (r ≥ 0) = decide (n ∈ l.drop i) := by
 intro d; induction d with
 | zero =>
  intro i hi; refine ⟨-1, Ev.step (fun k => ay.l0.eq_2 _ _ _ _ _) ?_, ?_⟩
  ·simp only [if_neg (show ¬ ((i : Int) < (l.length : Int)) by omega)]; exact Ev.now _
  ·rw [List.drop_of_length_le (by omega)]; simp
 | succ d ih =>
  intro i hi; have hs := dW (l := l) (n := n) (show i < l.length by omega); by_cases h : n = l[i]
  ·refine ⟨(i : Int), Ev.step (fun k => ay.l0.eq_2 _ _ _ _ _) ?_, ?_⟩
   ·simp only [if_pos (show ((i : Int) < (l.length : Int)) by omega), if_pos (show 0 ≤ (i : Int) by omega), lE l i (by omega), toList_inj, if_pos h]; exact Ev.now _
   ·rw [decide_eq_true (hs.2 (.inl h))]; simp
  ·obtain ⟨r, h1, h2⟩ := ih (i + 1) (by omega); refine ⟨r, Ev.step (fun k => ay.l0.eq_2 _ _ _ _ _) ?_, ?_⟩
   ·simp only [if_pos (show ((i : Int) < (l.length : Int)) by omega), if_pos (show 0 ≤ (i : Int) by omega), lE l i (by omega), toList_inj, if_neg h, bT i (by omega)]; exact h1
   ·rw [h2]; exact decide_eq_decide.2 (hs.trans ⟨fun h1 => h1.resolve_left h, .inr⟩).symm
open Classical in
theorem cZ (l : List ByteArray) (n : ByteArray) (hn : l.length < 4611686018427387904) : Ev (fun k => an.f k l n) (decide (n ∈ l)) := by
 obtain ⟨r, h1, h2⟩ := fm l n hn l.length 0 (by omega); simp only [an.f]; refine Ev.bind (a := r) h1 ?_; rw [h2]; exact Ev.now _
open Classical in
noncomputable def ft (w : ByteArray) : ByteArray := if w ∈ cE then (⟨#[]⟩ : ByteArray) else w
open Classical in
theorem mO (x : ByteArray) (hx : x.size ≤ 100) (b : Bool) (hb : b = true → 1 ≤ x.size) : Ev (fun k => b7.j0 k x (x.size : Int) b) (ft (if b = true then x.extract 0 (x.size - 1) else x)) := by
 refine Ev.step (fun k => b7.j0.eq_2 _ _ _ _) ?_; cases b with
 | false =>
  simp only [if_neg (show ¬ (false = true) by decide)]; refine Ev.bind (cZ cE x (by decide)) ?_; unfold ft
  by_cases h : x ∈ cE
  ·simp only [if_pos h, decide_eq_true h, if_true]; exact Ev.now _
  ·simp only [if_neg h, decide_eq_false h, if_neg (show ¬ (false = true) by decide)]; exact Ev.now _
 | true =>
  have h1 := hb rfl; simp only [if_true, br (x := (x.size : Int) - 1) (by omega) (by omega), if_pos (show 0 ≤ (x.size : Int) - 1 by omega), if_pos (show (x.size : Int) - 1 ≤ (x.size : Int) by omega), show ((x.size : Int) - 1).toNat = x.size - 1 by omega]; refine Ev.bind (cZ cE _ (by decide)) ?_; unfold ft
  by_cases h : x.extract 0 (x.size - 1) ∈ cE
  ·simp only [if_pos h, decide_eq_true h, if_true]; exact Ev.now _
  ·simp only [if_neg h, decide_eq_false h, if_neg (show ¬ (false = true) by decide)]; exact Ev.now _
def gP (w : ByteArray) : ByteArray := w.extract 0 (min w.size 12)
theorem extract_size (w : ByteArray) (n : Nat) (h : n ≤ w.size) : (w.extract 0 n).size = n := by rw [ByteArray.size_extract]; omega
theorem lK (w : ByteArray) : (gP w).size = min w.size 12 := extract_size w _ (Nat.min_le_left _ _)
def iP (w : ByteArray) : Bool := decide (w.size > 3 ∧ bt w ((w.size : Int) - 1) = 115 ∧ bt w ((w.size : Int) - 2) ≠ 115)
def noS (w : ByteArray) : ByteArray := if iP w = true then w.extract 0 (w.size - 1) else w
noncomputable def gT (s : ByteArray) : ByteArray := ft (noS (gP (eF s)))
theorem nl (s : ByteArray) (hs : s.size < 70368744177664) : Ev (fun k => b7.f k s) (gT s) := by
 simp only [b7.f]; have hz := kN s; simp only [mW s hs, Option.bind_some]; have hmn : mn ((eF s).size : Int) 12 = ((min (eF s).size 12 : Nat) : Int) := by unfold mn; split <;> omega
 simp only [hmn, if_pos (show (0 : Int) ≤ ((min (eF s).size 12 : Nat) : Int) by omega), if_pos (show ((min (eF s).size 12 : Nat) : Int) ≤ ((eF s).size : Int) by omega), Int.toNat_natCast]; have hc : (eF s).extract 0 (min (eF s).size 12) = gP (eF s) := rfl; have hx : (gP (eF s)).size ≤ 100 := by rw [lK]; omega
 simp only [hc]; unfold gT
 generalize gP (eF s) = x at hx; have key : ∀ b : Bool, b = iP x → Ev (fun k => b7.j0 k x (x.size : Int) b) (ft (noS x)) := by
  intro b hb; have := mO x hx b (fun h => by
   rw [hb] at h; have := (of_decide_eq_true h).1; omega)
  rw [hb] at this ⊢; exact this
 by_cases h3 : (x.size : Int) > 3
 ·simp only [if_pos h3, br (x := (x.size : Int) - 1) (by omega) (by omega), br (x := (x.size : Int) - 2) (by omega) (by omega), if_pos (show 0 ≤ (x.size : Int) - 1 by omega), if_pos (show (x.size : Int) - 1 < (x.size : Int) by omega), if_pos (show 0 ≤ (x.size : Int) - 2 by omega), if_pos (show (x.size : Int) - 2 < (x.size : Int) by omega)]; by_cases h4 : bt x ((x.size : Int) - 1) = 115
  ·simp only [if_pos h4]; refine key _ ?_; unfold iP
   by_cases h5 : bt x ((x.size : Int) - 2) = 115
   ·rw [decide_eq_false (fun h => h.2.2 h5)]; simp [h5]
   ·rw [decide_eq_true ⟨by omega, h4, h5⟩]; simp [h5]
  ·simp only [if_neg h4]; refine key _ ?_; unfold iP
   rw [decide_eq_false (fun h => h4 h.2.1)]
 ·simp only [if_neg h3]; refine key _ ?_; unfold iP
  rw [decide_eq_false (fun h => by have := h.1; omega)]
theorem lY (l : List S90) (hn : l.length ≤ 1048578) (hs : ∀ w ∈ l, w.f0.size < 70368744177664) : ∀ (d i : Nat) (acc : List ByteArray), i + d = l.length → acc.length ≤ i →
  Ev (fun k => cz.l0 k acc l (l.length : Int) (i : Int)) (acc ++ (l.drop i).map (fun w => gT w.f0)) := by
 intro d; induction d with
 | zero =>
  intro i acc hi ha; refine Ev.step (fun k => cz.l0.eq_2 _ _ _ _ _) ?_; simp only [if_neg (show ¬ ((i : Int) < (l.length : Int)) by omega)]; rw [List.drop_eq_nil_of_le (by omega), List.map_nil, List.append_nil]; exact Ev.now _
 | succ d ih =>
  intro i acc hi ha; refine Ev.step (fun k => cz.l0.eq_2 _ _ _ _ _) ?_; simp only [if_pos (show ((i : Int) < (l.length : Int)) by omega), if_pos (show 0 ≤ (i : Int) by omega), jU l i (by omega), bT i (by omega)]; refine Ev.bind (nl _ (hs _ (List.getElem_mem (by omega)))) ?_; simp only [if_pos (show acc.length < 8796093022208 by omega)]; have := ih (i + 1) (acc ++ [gT l[i].f0]) (by omega) (by simp; omega); rw [cQ l i (by omega), List.map_cons]; rw [List.append_assoc] at this; exact this
def lV (c : Int) : Prop := 48 ≤ c ∧ c ≤ 57
instance (c : Int) : Decidable (lV c) := by unfold lV; infer_instance
def lN (c : Int) : Prop := 97 ≤ c ∧ c ≤ 122
instance (c : Int) : Decidable (lN c) := by unfold lN; infer_instance
def upP (c : Int) : Prop := 65 ≤ c ∧ c ≤ 90
instance (c : Int) : Decidable (upP c) := by unfold upP; infer_instance
def gi (c : Int) : Prop := upP c ∨ lN c ∨ lV c
instance (c : Int) : Decidable (gi c) := by unfold gi; infer_instance
def cI : Nat → Option Nat → List Int → List (Nat × Nat)
 | _, none, [] => []
 | p, some st, [] => [(st, p)]
 | p, none, c :: cs => if gi c then cI (p + 1) (some p) cs else cI (p + 1) none cs
 | p, some st, c :: cs => if gi c then cI (p + 1) (some st) cs else (st, p) :: cI (p + 1) none cs
def gv (s : ByteArray) (q : Nat × Nat) : S90 := ⟨s.extract q.1 q.2, (q.1 : Int), (q.2 : Int)⟩
def eW (s : ByteArray) : List S90 := (cI 0 none (am s)).map (gv s)
noncomputable def fI (s : ByteArray) : List ByteArray := (eW s).map (fun w => gT w.f0)
theorem ki (s : ByteArray) (a b : Nat) : (s.extract a b).size ≤ s.size := by rw [ByteArray.size_extract]; omega
theorem ii (s : ByteArray) : ∀ w ∈ eW s, w.f0.size ≤ s.size := by
 intro w hw; obtain ⟨q, _, rfl⟩ := List.mem_map.1 hw; exact ki s _ _
theorem gK (s : ByteArray) (j : Nat) (h : j < (am s).length) : bt s (j : Int) = (am s)[j] := by
 rw [← lL, iF _ _ h]
theorem bP (i : Nat) : ((i : Int)).toNat = i := by simp
theorem ie (a : Int) : dE.f a = some (decide (lV a)) := by
 unfold dE.f lV
 by_cases h : a ≥ 48
 ·rw [if_pos h]; congr 1; exact decide_eq_decide.2 (by omega)
 ·rw [if_neg h]; congr 1; symm; exact decide_eq_false (by omega)
theorem ir (a : Int) : dd.f a = some (decide (lN a)) := by
 unfold dd.f lN
 by_cases h : a ≥ 97
 ·rw [if_pos h]; congr 1; exact decide_eq_decide.2 (by omega)
 ·rw [if_neg h]; congr 1; symm; exact decide_eq_false (by omega)
theorem mi (a : Int) : df.f a = some (decide (upP a)) := by
 unfold df.f upP
 by_cases h : a ≥ 65
 ·rw [if_pos h]; congr 1; exact decide_eq_decide.2 (by omega)
 ·rw [if_neg h]; congr 1; symm; exact decide_eq_false (by omega)
theorem jk (c : Int) : dh.f c = some (decide (gi c)) := by
 simp only [dh.f, mi, ir, ie, Option.bind_some, decide_eq_true_eq]; by_cases h1 : upP c
 ·rw [if_pos h1, decide_eq_true (show gi c from .inl h1)]
 ·rw [if_neg h1]; by_cases h2 : lN c
  ·rw [if_pos h2, decide_eq_true (show gi c from .inr (.inl h2))]
  ·rw [if_neg h2]; congr 1; exact decide_eq_decide.2 ⟨fun h => .inr (.inr h), fun h => (h.resolve_left h1).resolve_left h2⟩
theorem mM (s : ByteArray) (hn : s.size < 1099511627776) : ∀ (d : Nat),
  (∀ (i : Nat) (acc : List S90), i + d = s.size → acc.length ≤ i → Ev (fun k => be.l0 k s acc (i : Int)) (acc ++ (cI i none ((am s).drop i)).map (gv s))) ∧
  (∀ (i j : Nat) (acc : List S90), i + d = s.size → j < i → acc.length ≤ i → Ev (fun k => be.l1 k s acc (i : Int) (j : Int)) (acc ++ (cI i (some j) ((am s).drop i)).map (gv s))) := by
 have hb := bW s; intro d; induction d with
 | zero =>
  have h0 : ∀ (i : Nat) (acc : List S90), s.size ≤ i → Ev (fun k => be.l0 k s acc (i : Int)) acc := by
   intro i acc hi; refine Ev.step (fun k => be.l0.eq_2 _ _ _ _) ?_; simp only [if_neg (show ¬ ((i : Int) < (s.size : Int)) by omega)]; exact Ev.now _
  constructor
  ·intro i acc hi hacc; rw [List.drop_of_length_le (by omega)]; simpa [cI] using h0 i acc (by omega)
  ·intro i j acc hi hj hacc; rw [List.drop_of_length_le (by omega)]; refine Ev.step (fun k => be.l1.eq_2 _ _ _ _ _) ?_; simp only [if_neg (show ¬ ((i : Int) < (s.size : Int)) by omega), if_pos (show (i : Int) > (j : Int) by omega), if_pos (show 0 ≤ (j : Int) by omega), if_pos (show (j : Int) ≤ (i : Int) by omega), if_pos (show (i : Int) ≤ (s.size : Int) by omega), if_pos (show acc.length < 4398046511104 by omega), bT i (by omega), bP]; exact h0 (i + 1) _ (by omega)
 | succ d ih =>
  have h1 : ∀ (i j : Nat) (acc : List S90), i + (d + 1) = s.size → j ≤ i → acc.length ≤ i → Ev (fun k => be.l1 k s acc (i : Int) (j : Int)) (acc ++ (cI i (if j < i then some j else none) ((am s).drop i)).map (gv s)) := by
   intro i j acc hi hj hacc; refine Ev.step (fun k => be.l1.eq_2 _ _ _ _ _) ?_; simp only [if_pos (show ((i : Int) < (s.size : Int)) by omega), if_pos (show 0 ≤ (i : Int) by omega), gK s i (by omega), jk, Option.bind_some, decide_eq_true_eq, bT i (by omega)]; rw [cQ (am s) i (by omega)]; by_cases hw : gi (am s)[i]
   ·simp only [if_pos hw]; have := ih.2 (i + 1) j acc (by omega) (by omega) (by omega); by_cases hji : j < i
    ·simpa only [if_pos hji, cI, if_pos hw] using this
    ·obtain rfl : j = i := by omega
     simpa only [if_neg hji, cI, if_pos hw] using this
   ·simp only [if_neg hw]; by_cases hji : j < i
    ·simp only [if_pos hji, if_pos (show (i : Int) > (j : Int) by omega), if_pos (show 0 ≤ (j : Int) by omega), if_pos (show (j : Int) ≤ (i : Int) by omega), if_pos (show (i : Int) ≤ (s.size : Int) by omega), if_pos (show acc.length < 4398046511104 by omega), bP, cI, if_neg hw]; have := ih.1 (i + 1) (acc ++ [gv s (j, i)]) (by omega) (by simp; omega); rw [List.append_assoc] at this; exact this
    ·simp only [if_neg hji, if_neg (show ¬ (i : Int) > (j : Int) by omega), cI, if_neg hw]; exact ih.1 (i + 1) acc (by omega) (by omega)
  constructor
  ·intro i acc hi hacc; refine Ev.step (fun k => be.l0.eq_2 _ _ _ _) ?_; simp only [if_pos (show ((i : Int) < (s.size : Int)) by omega)]; have := h1 i i acc hi (Nat.le_refl _) hacc; simpa only [if_neg (Nat.lt_irrefl i)] using this
  ·intro i j acc hi hj hacc; have := h1 i j acc hi (by omega) hacc; simpa only [if_pos hj] using this
theorem lS (s : ByteArray) (hn : s.size < 1099511627776) : Ev (fun k => be.f k s) (eW s) := by
 have := (mM s hn s.size).1 0 [] (by omega) (by simp); rw [List.nil_append, List.drop_zero] at this; exact this
theorem ln : ∀ (l : List Int) (p : Nat) (o : Option Nat), (cI p o l).length ≤ l.length + (if o.isSome then 1 else 0) := by
 intro l; induction l with
 | nil => intro p o; cases o <;> simp [cI]
 | cons c cs ih =>
  intro p o; cases o with
  | none =>
   by_cases h : gi c
   ·simp only [cI, if_pos h]; have := ih (p + 1) (some p); simp at this ⊢; omega
   ·simp only [cI, if_neg h]; have := ih (p + 1) none; simp at this ⊢; omega
  | some st =>
   by_cases h : gi c
   ·simp only [cI, if_pos h]; have := ih (p + 1) (some st); simp at this ⊢; omega
   ·simp only [cI, if_neg h]; have := ih (p + 1) none; simp at this ⊢; omega
theorem fL (s : ByteArray) : (eW s).length ≤ s.size := by
 unfold eW
 rw [List.length_map]; have := ln (am s) 0 none; rw [bW] at this; simpa using this
theorem lR (s : ByteArray) (hs : s.size ≤ 1048578) : Ev (fun k => cz.f k s) (fI s) := by
 simp only [cz.f]; have hl := fL s; refine Ev.bind (lS s (by omega)) ?_; exact lY (eW s) (by omega) (fun w hw => by have := ii s w hw; omega) (eW s).length 0 [] (by omega) (by simp)
theorem rS (c : Int) : du c = if upP c then c + 32 else c := by
 unfold du
 by_cases h : 65 ≤ c ∧ c ≤ 90
 ·rw [if_pos h, if_pos (show upP c from h)]
 ·rw [if_neg h, if_neg (show ¬ upP c from h)]
theorem gD (c : Int) (h0 : 0 ≤ c) (h1 : c ≤ 255) : cF.f c = some (if upP c then c + 32 else c) := by
 unfold cF.f
 by_cases h : upP c
 ·have h' : 65 ≤ c ∧ c ≤ 90 := h; rw [if_pos h'.1, if_pos h'.2, if_pos h]; congr 1; omega
 ·have h' : ¬ (65 ≤ c ∧ c ≤ 90) := h; rw [if_neg h]; by_cases h2 : c ≥ 65
  ·rw [if_pos h2, if_neg (by omega)]
  ·rw [if_neg h2]
theorem nb (s : ByteArray) (hn : s.size < 70368744177664) : ∀ (d i : Nat) (acc : List Int), i + d = s.size → acc.length ≤ i →
  Ev (fun k => db.l0 k s acc (i : Int)) (strOfNums (acc ++ ((am s).drop i).map du)) := by
 have hb := bW s; have hr := fg s; intro d; induction d with
 | zero =>
  intro i acc hi hacc; refine Ev.step (fun k => db.l0.eq_2 _ _ _ _) ?_; simp only [if_neg (show ¬ ((i : Int) < (s.size : Int)) by omega)]; rw [List.drop_of_length_le (by omega), List.map_nil, List.append_nil]; exact Ev.now _
 | succ d ih =>
  intro i acc hi hacc; have hc := hr (am s)[i] (List.getElem_mem _); refine Ev.step (fun k => db.l0.eq_2 _ _ _ _) ?_; simp only [if_pos (show ((i : Int) < (s.size : Int)) by omega), if_pos (show 0 ≤ (i : Int) by omega), gK s i (by omega), gD _ hc.1 hc.2, Option.bind_some, if_pos (show acc.length < 140737488355328 by omega), bT i (by omega), ← rS]; have := ih (i + 1) (acc ++ [du (am s)[i]]) (by omega) (by simp; omega); rw [cQ (am s) i (by omega), List.map_cons]; rw [List.append_assoc, List.singleton_append] at this; exact this
theorem m3 (s : ByteArray) (hn : s.size < 70368744177664) : Ev (fun k => db.f k s) (eF s) := by
 have := nb s hn s.size 0 [] (by omega) (by simp); rw [List.nil_append, List.drop_zero] at this; exact this
theorem cA {g : Nat → Option Bool} {p : Prop} [Decidable p] (h : ¬ p) (k : Ev g false) : Ev g (decide p) := by
 rw [decide_eq_false h]; exact k
theorem cN {g : Nat → Option Bool} {p q : Prop} [Decidable p] [Decidable q] (h : p ↔ q) (k : Ev g (decide p)) : Ev g (decide q) := by
 have : decide p = decide q := decide_eq_decide.2 h; rw [← this]; exact k
theorem kx {g : Nat → Option Bool} {p : Prop} [Decidable p] (h : p) (k : Ev g true) : Ev g (decide p) := by
 rw [decide_eq_true h]; exact k
open Classical in
theorem lq (s : ByteArray) (l : List ByteArray) (hl : l.length < 100) : ∀ (d i : Nat), i + d = l.length → Ev (fun k => bG.l0 k s l (i : Int)) (decide (s ∈ l.drop i)) := by
 intro d; induction d with
 | zero =>
  intro i hi; refine Ev.step (fun k => bG.l0.eq_2 _ _ _ _) ?_; simp only [if_neg (show ¬ ((i : Int) < (l.length : Int)) by omega)]; refine cA (fun h => ?_) (Ev.now _); rw [List.drop_eq_nil_of_le (by omega)] at h; simp at h
 | succ d ih =>
  intro i hi; refine Ev.step (fun k => bG.l0.eq_2 _ _ _ _) ?_; have e := List.drop_eq_getElem_cons (l := l) (i := i) (by omega); simp only [if_pos (show ((i : Int) < (l.length : Int)) by omega), if_pos (show 0 ≤ (i : Int) by omega), lE l i (by omega), bT i (by omega), toList_inj]; by_cases h : l[i] = s
  ·simp only [if_pos h]; exact kx (by rw [e, h]; exact List.mem_cons_self ..) (Ev.now _)
  ·simp only [if_neg h]; refine cN ?_ (ih (i + 1) (by omega)); rw [e, List.mem_cons]; exact ⟨.inr, fun h2 => h2.resolve_left (fun h3 => h h3.symm)⟩
open Classical in
theorem gU (s : ByteArray) : Ev (fun k => bG.f k s) (decide (s ∈ cE)) := by
 simp only [bG.f]; exact lq s cE (by decide) 6 0 rfl
open Classical in
theorem nt (x : ByteArray) (hx : x.size ≤ 100) (b : Bool) (hb : b = true → 1 ≤ x.size) : Ev (fun k => bB.j1 k x (x.size : Int) b) (ft (if b = true then x.extract 0 (x.size - 1) else x)) := by
 refine Ev.step (fun k => bB.j1.eq_2 _ _ _ _) ?_; cases b with
 | false =>
  simp only [if_neg (show ¬ (false = true) by decide)]; refine Ev.bind (gU x) ?_; unfold ft
  by_cases h : x ∈ cE
  ·simp only [if_pos h, decide_eq_true h, if_true]; exact Ev.now _
  ·simp only [if_neg h, decide_eq_false h, if_neg (show ¬ (false = true) by decide)]; exact Ev.now _
 | true =>
  have h1 := hb rfl; simp only [if_true, br (x := (x.size : Int) - 1) (by omega) (by omega), if_pos (show 0 ≤ (x.size : Int) - 1 by omega), if_pos (show (x.size : Int) - 1 ≤ (x.size : Int) by omega), show ((x.size : Int) - 1).toNat = x.size - 1 by omega]; refine Ev.bind (gU _) ?_; unfold ft
  by_cases h : x.extract 0 (x.size - 1) ∈ cE
  ·simp only [if_pos h, decide_eq_true h, if_true]; exact Ev.now _
  ·simp only [if_neg h, decide_eq_false h, if_neg (show ¬ (false = true) by decide)]; exact Ev.now _
theorem i8 (x : ByteArray) (hx : x.size ≤ 100) : Ev (fun k => bB.j0 k x) (ft (noS x)) := by
 refine Ev.step (fun k => bB.j0.eq_2 _ _) ?_; have key : ∀ b : Bool, b = iP x → Ev (fun k => bB.j1 k x (x.size : Int) b) (ft (noS x)) := by
  intro b hb; have := nt x hx b (fun h => by
   rw [hb] at h; have := (of_decide_eq_true h).1; omega)
  rw [hb] at this ⊢; exact this
 by_cases h3 : (x.size : Int) > 3
 ·simp only [if_pos h3, br (x := (x.size : Int) - 1) (by omega) (by omega), br (x := (x.size : Int) - 2) (by omega) (by omega), if_pos (show 0 ≤ (x.size : Int) - 1 by omega), if_pos (show (x.size : Int) - 1 < (x.size : Int) by omega), if_pos (show 0 ≤ (x.size : Int) - 2 by omega), if_pos (show (x.size : Int) - 2 < (x.size : Int) by omega)]; by_cases h4 : bt x ((x.size : Int) - 1) = 115
  ·simp only [if_pos h4]; refine key _ ?_; unfold iP
   by_cases h5 : bt x ((x.size : Int) - 2) = 115
   ·rw [decide_eq_false (fun h => h.2.2 h5)]; simp [h5]
   ·rw [decide_eq_true ⟨by omega, h4, h5⟩]; simp [h5]
  ·simp only [if_neg h4]; refine key _ ?_; unfold iP
   rw [decide_eq_false (fun h => h4 h.2.1)]
 ·simp only [if_neg h3]; refine key _ ?_; unfold iP
  rw [decide_eq_false (fun h => by have := h.1; omega)]
theorem oQ (w : ByteArray) (h : 12 < w.size) : gP w = w.extract 0 12 := by unfold gP; rw [Nat.min_eq_right (by omega)]
theorem nk (w : ByteArray) : w.extract 0 w.size = w := by
 apply ByteArray.ext
 rw [ByteArray.data_extract]; exact Array.extract_size
theorem n5 (w : ByteArray) (h : w.size ≤ 12) : gP w = w := by unfold gP; rw [Nat.min_eq_left h]; exact nk w
theorem ng (s : ByteArray) (hs : s.size < 70368744177664) : Ev (fun k => bB.f k s) (gT s) := by
 simp only [bB.f]; have hz := kN s; refine Ev.bind (m3 s hs) ?_; unfold gT
 by_cases h : ((eF s).size : Int) > 12
 ·simp only [if_pos h, if_pos (show (0 : Int) ≤ 12 by omega), if_pos (show (12 : Int) ≤ ((eF s).size : Int) by omega)]; rw [oQ _ (by omega)]; exact i8 _ (by rw [extract_size _ _ (by omega)]; omega)
 ·simp only [if_neg h]; rw [n5 _ (by omega)]; exact i8 _ (by omega)
theorem mb (l : List S90) (hn : l.length ≤ 1048578) (hs : ∀ w ∈ l, w.f0.size < 70368744177664) : ∀ (d i : Nat) (acc : List ByteArray), i + d = l.length → acc.length ≤ i →
  Ev (fun k => cC.l0 k acc l (i : Int)) (acc ++ (l.drop i).map (fun w => gT w.f0)) := by
 intro d; induction d with
 | zero =>
  intro i acc hi ha; refine Ev.step (fun k => cC.l0.eq_2 _ _ _ _) ?_; simp only [if_neg (show ¬ ((i : Int) < (l.length : Int)) by omega)]; rw [List.drop_eq_nil_of_le (by omega), List.map_nil, List.append_nil]; exact Ev.now _
 | succ d ih =>
  intro i acc hi ha; refine Ev.step (fun k => cC.l0.eq_2 _ _ _ _) ?_; simp only [if_pos (show ((i : Int) < (l.length : Int)) by omega), if_pos (show 0 ≤ (i : Int) by omega), jU l i (by omega), bT i (by omega)]; refine Ev.bind (ng _ (hs _ (List.getElem_mem (by omega)))) ?_; simp only [if_pos (show acc.length < 8796093022208 by omega)]; have := ih (i + 1) (acc ++ [gT l[i].f0]) (by omega) (by simp; omega); rw [cQ l i (by omega), List.map_cons]; rw [List.append_assoc] at this; exact this
theorem gJ (c : Int) (h0 : 0 ≤ c) (h1 : c ≤ 255) : dw.f c = some (decide (gi c)) := by
 simp only [dw.f, gD c h0 h1, Option.bind_some]; by_cases h : upP c
 ·have h' : 65 ≤ c ∧ c ≤ 90 := h; simp only [if_pos h, if_pos (show c + 32 ≥ 97 by omega), if_pos (show c + 32 ≤ 122 by omega)]; congr 1; symm; exact decide_eq_true (.inl h)
 ·have h' : ¬ (65 ≤ c ∧ c ≤ 90) := h; simp only [if_neg h]; by_cases h2 : c ≥ 97
  ·simp only [if_pos h2]; by_cases h3 : c ≤ 122
   ·simp only [if_pos h3]; congr 1; symm; exact decide_eq_true (.inr (.inl ⟨h2, h3⟩))
   ·simp only [if_neg h3, if_pos (show c ≥ 48 by omega)]; congr 1; exact decide_eq_decide.2 ⟨fun h4 => .inr (.inr ⟨by omega, h4⟩), fun h4 => by rcases h4 with h4 | h4 | h4; exact absurd h4 h; exact absurd h4.2 h3; exact h4.2⟩
  ·simp only [if_neg h2]; by_cases h3 : c ≥ 48
   ·simp only [if_pos h3]; congr 1; exact decide_eq_decide.2 ⟨fun h4 => .inr (.inr ⟨by omega, h4⟩), fun h4 => by rcases h4 with h4 | h4 | h4; exact absurd h4 h; exact absurd h4.1 h2; exact h4.2⟩
   ·simp only [if_neg h3]; congr 1; symm; exact decide_eq_false (fun h4 => by rcases h4 with h4 | h4 | h4; exact absurd h4 h; exact absurd h4.1 h2; exact absurd h4.1 h3)
theorem mS (s : ByteArray) (hn : s.size < 1099511627776) : ∀ (d : Nat),
  (∀ (i : Nat) (acc : List S90), i + d = s.size → acc.length ≤ i → Ev (fun k => ba.l0 k s acc (i : Int)) (acc ++ (cI i none ((am s).drop i)).map (gv s))) ∧
  (∀ (i j : Nat) (acc : List S90), i + d = s.size → j < i → acc.length ≤ j → Ev (fun k => ba.l1 k s acc (j : Int) (i : Int)) (acc ++ (cI i (some j) ((am s).drop i)).map (gv s))) := by
 have hb := bW s; intro d; induction d with
 | zero =>
  have h0 : ∀ (i : Nat) (acc : List S90), s.size ≤ i → Ev (fun k => ba.l0 k s acc (i : Int)) acc := by
   intro i acc hi; refine Ev.step (fun k => ba.l0.eq_2 _ _ _ _) ?_; simp only [if_neg (show ¬ ((i : Int) < (s.size : Int)) by omega)]; exact Ev.now _
  constructor
  ·intro i acc hi hacc; rw [List.drop_of_length_le (by omega)]; simpa [cI] using h0 i acc (by omega)
  ·intro i j acc hi hj hacc; rw [List.drop_of_length_le (by omega)]; refine Ev.step (fun k => ba.l1.eq_2 _ _ _ _ _) ?_; simp only [if_neg (show ¬ ((i : Int) < (s.size : Int)) by omega), if_neg (show ¬ (i : Int) = (j : Int) by omega), if_pos (show 0 ≤ (j : Int) by omega), if_pos (show (j : Int) ≤ (i : Int) by omega), if_pos (show (i : Int) ≤ (s.size : Int) by omega), if_pos (show acc.length < 4398046511104 by omega), bP]; exact h0 i _ (by omega)
 | succ d ih =>
  have hr : ∀ c ∈ am s, 0 ≤ c ∧ c ≤ 255 := fg s; have hstep : ∀ (i : Nat) (acc : List S90), i + (d + 1) = s.size → acc.length ≤ i → Ev (fun k => ba.l0 k s acc (i : Int)) (acc ++ (cI i none ((am s).drop i)).map (gv s)) := by
   intro i acc hi hacc; have hc := hr (am s)[i] (List.getElem_mem _); refine Ev.step (fun k => ba.l0.eq_2 _ _ _ _) ?_; simp only [if_pos (show ((i : Int) < (s.size : Int)) by omega)]; refine Ev.step (fun k => ba.l1.eq_2 _ _ _ _ _) ?_; simp only [if_pos (show ((i : Int) < (s.size : Int)) by omega), if_pos (show 0 ≤ (i : Int) by omega), gK s i (by omega), gJ _ hc.1 hc.2, Option.bind_some, decide_eq_true_eq, bT i (by omega), if_true]; rw [cQ (am s) i (by omega)]; by_cases hw : gi (am s)[i]
   ·simp only [if_pos hw, cI]; exact ih.2 (i + 1) i acc (by omega) (by omega) (by omega)
   ·simp only [if_neg hw, cI]; exact ih.1 (i + 1) acc (by omega) (by omega)
  refine ⟨hstep, ?_⟩; intro i j acc hi hj hacc; have hc := hr (am s)[i] (List.getElem_mem _); refine Ev.step (fun k => ba.l1.eq_2 _ _ _ _ _) ?_; simp only [if_pos (show ((i : Int) < (s.size : Int)) by omega), if_pos (show 0 ≤ (i : Int) by omega), gK s i (by omega), gJ _ hc.1 hc.2, Option.bind_some, decide_eq_true_eq, bT i (by omega)]; have hd := cQ (am s) i (by omega); by_cases hw : gi (am s)[i]
  ·rw [hd]; simp only [if_pos hw, cI]; exact ih.2 (i + 1) j acc (by omega) (by omega) (by omega)
  ·simp only [if_neg hw, if_neg (show ¬ (i : Int) = (j : Int) by omega), if_pos (show 0 ≤ (j : Int) by omega), if_pos (show (j : Int) ≤ (i : Int) by omega), if_pos (show (i : Int) ≤ (s.size : Int) by omega), if_pos (show acc.length < 4398046511104 by omega), bP]; have := hstep i (acc ++ [gv s (j, i)]) hi (by simp; omega); rw [hd] at this ⊢; simp only [cI, if_neg hw, List.append_assoc] at this ⊢; exact this
theorem lT (s : ByteArray) (hn : s.size < 1099511627776) : Ev (fun k => ba.f k s) (eW s) := by
 have := (mS s hn s.size).1 0 [] (by omega) (by simp); rw [List.nil_append, List.drop_zero] at this; exact this
theorem l6 (s : ByteArray) (hs : s.size ≤ 1048578) : Ev (fun k => cC.f k s) (fI s) := by
 simp only [cC.f]; have hl := fL s; refine Ev.bind (lT s (by omega)) ?_; exact mb (eW s) (by omega) (fun w hw => by have := ii s w hw; omega) (eW s).length 0 [] (by omega) (by simp)
theorem l5 (s : ByteArray) : (fI s).length = (eW s).length := List.length_map ..
def em (n : ByteArray) : List S92 → ByteArray × Int × Int
 | [] => (⟨#[]⟩, 0, 0)
 | f :: F => if f.f0 = n then (f.f0, f.f1, f.f2) else em n F
theorem en (l : List S92) (j : Nat) (h : j < l.length) : ap l (j : Int) = l[j] := by
 unfold ap; simp [List.getD_eq_getElem?_getD, List.getElem?_eq_getElem h]
theorem kg (n : ByteArray) (F : List S92) (hn : F.length < 4611686018427387904) : ∀ (d i : Nat), i + d = F.length → Ev (fun k => bi.l0 k n F (F.length : Int) (i : Int)) (em n (F.drop i)) := by
 intro d; induction d with
 | zero =>
  intro i hi; refine Ev.step (fun k => bi.l0.eq_2 _ _ _ _ _) ?_; simp only [if_neg (show ¬ ((i : Int) < (F.length : Int)) by omega)]; rw [List.drop_eq_nil_of_le (by omega)]; exact Ev.now _
 | succ d ih =>
  intro i hi; have hil : i < F.length := by omega
  refine Ev.step (fun k => bi.l0.eq_2 _ _ _ _ _) ?_; rw [cQ F i hil]; simp only [if_pos (show ((i : Int) < (F.length : Int)) by omega), if_pos (show 0 ≤ (i : Int) by omega), en F i hil, toList_inj, bT i (by omega), em]; by_cases h : F[i].f0 = n
  ·simp only [if_pos h]; exact Ev.now _
  ·simp only [if_neg h]; exact ih (i + 1) (by omega)
theorem gC (n : ByteArray) (F : List S92) (hn : F.length < 4611686018427387904) : Ev (fun k => bi.f k F n) (em n F) := by
 have := kg n F hn F.length 0 (by omega); simpa [bi.f] using this
def ez (F : List S92) (n : ByteArray) : Int := (em n F).2.1
def jv (p : ByteArray × ByteArray) (id x : Int) : S76 := ⟨p.1, p.2, [⟨id, [x]⟩]⟩
def mr (id x : Int) (e : S76) : S76 := ⟨e.f0, e.f1, fk e.f2 id x⟩
open Classical in
noncomputable def eh (p : ByteArray × ByteArray) (id x : Int) : List S76 → List S76
 | [] => [jv p id x]
 | e :: l => if ltP (ck e) p then e :: eh p id x l else if ck e = p then mr id x e :: l else jv p id x :: e :: l
noncomputable def kS (id : Int) (name : ByteArray) : List ByteArray → Int → List S76 → List S76
 | [], _, L => L
 | t :: ts, x, L => kS id name ts (x + 1) (if t.size = 0 then L else eh (name, t) id x L)
open Classical in
noncomputable def ib (p : ByteArray × ByteArray) (id x : Int) (l : List S76) : List S76 :=
 if ∃ e ∈ l, ck e = p then l.map (fun e => if ck e = p then mr id x e else e) else l ++ [jv p id x]
theorem my {p : ByteArray × ByteArray} {id x : Int} {l : List S76} (h : ∀ e ∈ l, ck e ≠ p) : l.map (fun e => if ck e = p then mr id x e else e) = l := by
 have : l.map (fun e => if ck e = p then mr id x e else e) = l.map (fun e => e) := List.map_congr_left (fun e he => if_neg (h e he)); rw [this, List.map_id']
def fZ (l : List S76) : Prop := l.Pairwise (fun a b => ltP (ck a) (ck b))
theorem mv (p : ByteArray × ByteArray) (id x : Int) : ∀ {l : List S76}, fZ l → (eh p id x l).Perm (ib p id x l)
 | [], _ => by
  rw [eh, ib, if_neg (by simp)]; exact List.Perm.refl _
 | e :: l, h => by
  obtain ⟨h1, h2⟩ := List.pairwise_cons.1 h; have ih := mv p id x h2; rw [eh]; split
  ·rename_i hlt
   have hne : ck e ≠ p := fun he => dN _ (by rw [← he] at hlt; exact hlt)
   have e2 : ib p id x (e :: l) = e :: ib p id x l := by
    unfold ib
    by_cases hc : ∃ y ∈ l, ck y = p
    ·rw [if_pos hc, if_pos (by obtain ⟨y, hy, hk⟩ := hc; exact ⟨y, List.mem_cons_of_mem _ hy, hk⟩), List.map_cons, if_neg hne]
    ·rw [if_neg hc, if_neg (fun ⟨y, hy, hk⟩ => by
      rcases List.mem_cons.1 hy with hy | hy
      ·exact hne (by rw [← hy]; exact hk)
      ·exact hc ⟨y, hy, hk⟩)]
     rfl
   rw [e2]; exact ih.cons _
  ·rename_i hlt
   split
   ·rename_i heq
    have hno : ∀ y ∈ l, ck y ≠ p := fun y hy hk => dN _ (by have := h1 y hy; rw [heq, hk] at this; exact this)
    have e2 : ib p id x (e :: l) = mr id x e :: l := by
     unfold ib
     rw [if_pos ⟨e, by simp, heq⟩, List.map_cons, if_pos heq, my hno]
    rw [e2]
   ·rename_i hne
    have hgt : ltP p (ck e) := by
     rcases fB (ck e) p with h | h | h
     ·exact absurd h hlt
     ·exact absurd h hne
     ·exact h
    have hno : ∀ y ∈ e :: l, ck y ≠ p := fun y hy hk => by
     rcases List.mem_cons.1 hy with hy | hy
     ·exact hne (by rw [← hy]; exact hk)
     ·exact dN _ (by have := fA hgt (h1 y hy); rw [hk] at this; exact this)
    have e2 : ib p id x (e :: l) = (e :: l) ++ [jv p id x] := by
     unfold ib
     rw [if_neg (fun ⟨y, hy, hk⟩ => hno y hy hk)]
    rw [e2]; exact (List.perm_append_singleton _ _).symm
theorem nU {p : ByteArray × ByteArray} {id x : Int} : ∀ {l : List S76} {y : S76}, y ∈ eh p id x l → ck y = p ∨ ∃ e ∈ l, ck y = ck e
 | [], y, h => by
  rw [eh, List.mem_singleton] at h; exact .inl (by rw [h]; rfl)
 | e :: l, y, h => by
  rw [eh] at h; split at h
  ·rcases List.mem_cons.1 h with h | h
   ·exact .inr ⟨e, by simp, by rw [h]⟩
   ·rcases nU h with h | ⟨z, hz, h⟩
    ·exact .inl h
    ·exact .inr ⟨z, List.mem_cons_of_mem _ hz, h⟩
  ·split at h
   ·rcases List.mem_cons.1 h with h | h
    ·exact .inr ⟨e, by simp, by rw [h]; rfl⟩
    ·exact .inr ⟨y, List.mem_cons_of_mem _ h, rfl⟩
   ·rcases List.mem_cons.1 h with h | h
    ·exact .inl (by rw [h]; rfl)
    ·exact .inr ⟨y, h, rfl⟩
theorem jS (p : ByteArray × ByteArray) (id x : Int) : ∀ {l : List S76}, fZ l → fZ (eh p id x l)
 | [], _ => by rw [eh]; exact List.pairwise_singleton _ _
 | e :: l, h => by
  obtain ⟨h1, h2⟩ := List.pairwise_cons.1 h; rw [eh]; split
  ·rename_i hlt
   refine List.pairwise_cons.2 ⟨fun y hy => ?_, jS p id x h2⟩; rcases nU hy with hy | ⟨z, hz, hy⟩
   ·rw [hy]; exact hlt
   ·rw [hy]; exact h1 z hz
  ·rename_i hlt
   split
   ·exact List.pairwise_cons.2 ⟨h1, h2⟩
   ·rename_i hne
    have hgt : ltP p (ck e) := by
     rcases fB (ck e) p with h | h | h
     ·exact absurd h hlt
     ·exact absurd h hne
     ·exact h
    refine List.pairwise_cons.2 ⟨fun y hy => ?_, h⟩; rcases List.mem_cons.1 hy with hy | hy
    ·rw [hy]; exact hgt
    ·exact fA hgt (h1 y hy)
theorem qS {p : ByteArray × ByteArray} {id x : Int} {l m : List S76} (h : l.Perm m) : (ib p id x l).Perm (ib p id x m) := by
 unfold ib
 by_cases hc : ∃ e ∈ l, ck e = p
 ·rw [if_pos hc, if_pos (by obtain ⟨e, he, hk⟩ := hc; exact ⟨e, h.mem_iff.1 he, hk⟩)]; exact h.map _
 ·rw [if_neg hc, if_neg (fun ⟨e, he, hk⟩ => hc ⟨e, h.mem_iff.2 he, hk⟩)]; exact h.append_right _
theorem lb {p : ByteArray × ByteArray} {id x : Int} : ∀ {G : List ((ByteArray × ByteArray) × List S50)} {y : ByteArray × ByteArray}, y ∈ (PFnExactIndexPosts.stepG G p id x).map (·.1) → y = p ∨ y ∈ G.map (·.1)
 | [], y, h => by
  rw [PFnExactIndexPosts.stepG] at h; exact .inl (by simpa using h)
 | g :: G, y, h => by
  rw [PFnExactIndexPosts.stepG] at h; split at h
  ·rename_i heq
   rw [List.map_cons] at h; rcases List.mem_cons.1 h with h | h
   ·exact .inl h
   ·exact .inr (by rw [List.map_cons]; exact List.mem_cons_of_mem _ h)
  ·rw [List.map_cons] at h; rcases List.mem_cons.1 h with h | h
   ·exact .inr (by rw [List.map_cons, h]; exact List.mem_cons_self ..)
   ·rcases lb h with h | h
    ·exact .inl h
    ·exact .inr (by rw [List.map_cons]; exact List.mem_cons_of_mem _ h)
theorem gQ {p : ByteArray × ByteArray} {id x : Int} : ∀ {G : List ((ByteArray × ByteArray) × List S50)}, (G.map (·.1)).Nodup → ((PFnExactIndexPosts.stepG G p id x).map (·.1)).Nodup
 | [], _ => by rw [PFnExactIndexPosts.stepG]; simp
 | g :: G, hn => by
  rw [List.map_cons, List.nodup_cons] at hn; rw [PFnExactIndexPosts.stepG]; split
  ·rename_i heq
   rw [List.map_cons, List.nodup_cons]; exact ⟨by show p ∉ _; rw [← heq]; exact hn.1, hn.2⟩
  ·rename_i hne
   rw [List.map_cons, List.nodup_cons]; refine ⟨fun h => ?_, gQ hn.2⟩; rcases lb h with h | h
   ·exact hne h
   ·exact hn.1 h
theorem lf {p : ByteArray × ByteArray} {id x : Int} : ∀ {G : List ((ByteArray × ByteArray) × List S50)}, (G.map (·.1)).Nodup → (PFnExactIndexPosts.stepG G p id x).map toE = ib p id x (G.map toE)
 | [], _ => by
  rw [PFnExactIndexPosts.stepG, ib, if_neg (by simp)]; rfl
 | g :: G, hn => by
  rw [List.map_cons, List.nodup_cons] at hn; have ih := lf (p := p) (id := id) (x := x) hn.2; have hkey : ∀ y : (ByteArray × ByteArray) × List S50, ck (toE y) = y.1 := fun y => rfl
  rw [PFnExactIndexPosts.stepG]; split
  ·rename_i heq
   have hno : ∀ y ∈ G.map toE, ck y ≠ p := fun y hy hk => by
    obtain ⟨z, hz, rfl⟩ := List.mem_map.1 hy; rw [hkey] at hk; exact hn.1 (List.mem_map.2 ⟨z, hz, by rw [hk, heq]⟩)
   unfold ib
   rw [List.map_cons, List.map_cons, if_pos ⟨toE g, by simp, by rw [hkey]; exact heq⟩, List.map_cons, if_pos (by rw [hkey]; exact heq), my hno]; subst heq; rfl
  ·rename_i hne
   rw [List.map_cons, ih, List.map_cons]; unfold ib
   by_cases hc : ∃ y ∈ G.map toE, ck y = p
   ·rw [if_pos hc, if_pos (by obtain ⟨y, hy, hk⟩ := hc; exact ⟨y, List.mem_cons_of_mem _ hy, hk⟩), List.map_cons, if_neg (by rw [hkey]; exact hne)]
   ·rw [if_neg hc, if_neg (fun ⟨y, hy, hk⟩ => by
     rcases List.mem_cons.1 hy with hy | hy
     ·rw [hy, hkey] at hk; exact hne hk
     ·exact hc ⟨y, hy, hk⟩)]
    rfl
theorem lI (G : List ((ByteArray × ByteArray) × List S50)) : (G.map toE).map ck = G.map (·.1) := by
 rw [List.map_map]; rfl
theorem qH {G : List ((ByteArray × ByteArray) × List S50)} (hn : (G.map (·.1)).Nodup) (p : ByteArray × ByteArray) (id x : Int) : dy ((PFnExactIndexPosts.stepG G p id x).map toE) = eh p id x (dy (G.map toE)) := by
 have hs : fZ (dy (G.map toE)) := eZ _ (by rw [lI]; exact hn); refine jL ?_ (eZ _ (by rw [lI]; exact gQ hn)) (jS p id x hs); refine (fJ _).trans ?_; rw [lf hn]; exact (qS (fJ _).symm).trans (mv p id x hs).symm
theorem ix (id : Int) (name : ByteArray) : ∀ (ts : List ByteArray) (x : Int) (G : List ((ByteArray × ByteArray) × List S50)), (G.map (·.1)).Nodup →
  kS id name ts x (dy (G.map toE)) = dy ((f4 id name ts x G).map toE) ∧ ((f4 id name ts x G).map (·.1)).Nodup
 | [], _, G, hn => ⟨rfl, hn⟩
 | t :: ts, x, G, hn => by
  rw [kS, f4]; by_cases ht : t.size = 0
  ·rw [if_pos ht, if_pos ht]; exact ix id name ts (x + 1) G hn
  ·rw [if_neg ht, if_neg ht, ← qH hn]; exact ix id name ts (x + 1) _ (gQ hn)
def fu (c : Nat) (l : List S76) : Prop := l.length ≤ c ∧ ∀ e ∈ l, e.f2 ≠ [] ∧ LenP c e.f2
theorem gm {n : ByteArray} : ∀ {F : List S92}, (∀ x ∈ F, x.f0 ≠ n) → em n F = (⟨#[]⟩, 0, 0)
 | [], _ => rfl
 | f :: F, h => by
  rw [em, if_neg (h f (by simp))]; exact gm (fun x hx => h x (List.mem_cons_of_mem _ hx))
theorem gq {n : ByteArray} : ∀ {F : List S92} {j : Nat} (hj : j < F.length), F[j].f0 = n → (∀ m (hm : m < j), F[m].f0 ≠ n) → em n F = (F[j].f0, F[j].f1, F[j].f2)
 | [], _, hj, _, _ => by simp at hj
 | f :: F, 0, _, h, _ => by
  rw [em]; have h' : f.f0 = n := h; rw [if_pos h']; rfl
 | f :: F, j + 1, hj, h, hb => by
  have h0 : f.f0 ≠ n := hb 0 (by omega); rw [em, if_neg h0]; exact gq (F := F) (j := j) (by simpa using hj) (by simpa using h) (fun m hm => by have := hb (m + 1) (by omega); simpa using this)
theorem ke (l : List S92) (n : ByteArray) (hn : l.length < 4611686018427387904) : ∀ (d i : Nat), i + d = l.length → (∀ m (hm : m < l.length), m < i → l[m].f0 ≠ n) →
  ∃ r, Ev (fun k => bc.l0 k l n (i : Int)) r ∧ ((r = -1 ∧ ∀ x ∈ l, x.f0 ≠ n) ∨ ∃ (j : Nat) (hj : j < l.length), r = (j : Int) ∧ l[j].f0 = n ∧ ∀ m (hm : m < j), l[m].f0 ≠ n) := by
 intro d; induction d with
 | zero =>
  intro i hi hb; refine ⟨-1, Ev.step (fun k => bc.l0.eq_2 _ _ _ _) ?_, .inl ⟨rfl, fun x hx => ?_⟩⟩
  ·simp only [if_neg (show ¬ ((i : Int) < (l.length : Int)) by omega)]; exact Ev.now _
  ·obtain ⟨m, hm, rfl⟩ := List.mem_iff_getElem.1 hx; exact hb m hm (by omega)
 | succ d ih =>
  intro i hi hb; by_cases h : l[i].f0 = n
  ·refine ⟨(i : Int), Ev.step (fun k => bc.l0.eq_2 _ _ _ _) ?_, .inr ⟨i, by omega, rfl, h, fun m hm => hb m (by omega) hm⟩⟩; simp only [if_pos (show ((i : Int) < (l.length : Int)) by omega), if_pos (show 0 ≤ (i : Int) by omega), en l i (by omega), toList_inj, if_pos h]; exact Ev.now _
  ·obtain ⟨r, hr, hq⟩ := ih (i + 1) (by omega) (fun m hm hlt => by
    rcases Nat.lt_or_ge m i with h1 | h1
    ·exact hb m hm h1
    ·obtain rfl : m = i := by omega
     exact h)
   refine ⟨r, Ev.step (fun k => bc.l0.eq_2 _ _ _ _) ?_, hq⟩; simp only [if_pos (show ((i : Int) < (l.length : Int)) by omega), if_pos (show 0 ≤ (i : Int) by omega), en l i (by omega), toList_inj, if_neg h, bT i (by omega)]; exact hr
theorem fp (l : List S92) (n : ByteArray) (hn : l.length < 4611686018427387904) :
  ∃ r, Ev (fun k => bc.f k l n) r ∧ ((r = -1 ∧ ∀ x ∈ l, x.f0 ≠ n) ∨ ∃ (j : Nat) (hj : j < l.length), r = (j : Int) ∧ l[j].f0 = n ∧ ∀ m (hm : m < j), l[m].f0 ≠ n) :=
 ke l n hn l.length 0 (by omega) (fun m hm h => absurd h (by omega))
theorem ks (F : List S92) (hF : F.length ≤ 1048576) (n : ByteArray) : Ev (fun k => dJ.f k F n 1) (ez F n == 1) := by
 simp only [dJ.f]; obtain ⟨r, hr, hq⟩ := fp F n (by omega); refine Ev.bind hr ?_; rcases hq with ⟨rfl, h⟩ | ⟨j, hj, rfl, h1, h2⟩
 ·simp only [if_neg (show ¬ ((-1 : Int) ≥ 0) by omega), ez, gm h]; exact Ev.now _
 ·simp only [if_pos (show ((j : Int) ≥ 0) by omega), if_pos (show (0 : Int) ≤ (j : Int) by omega), if_pos (show ((j : Int) < (F.length : Int)) by omega), en F j hj, ez, gq hj h1 h2]; exact Ev.now _
theorem iJ {c d : Nat} {l : List S76} (h : fu c l) (hd : c ≤ d) : fu d l :=
 ⟨by have := h.1; omega, fun e he => ⟨(h.2 e he).1, by have := (h.2 e he).2.1; omega, fun q hq => by have := (h.2 e he).2.2 q hq; omega⟩⟩
theorem rm (ps : List S50) (id x : Int) : fk ps id x ≠ [] := by
 unfold fk
 cases hl : ps.getLast? with
 | none => simp
 | some q =>
  simp only; split
  ·intro h; have := congrArg List.length h; rw [List.length_set] at this; have h2 : ps = [] := List.eq_nil_of_length_eq_zero this; rw [h2] at hl; simp at hl
  ·simp
theorem k8 {c : Nat} {p : ByteArray × ByteArray} {id x : Int} : ∀ {l : List S76}, (∀ e ∈ l, e.f2 ≠ [] ∧ LenP c e.f2) → (eh p id x l).length ≤ l.length + 1 ∧ ∀ e ∈ eh p id x l, e.f2 ≠ [] ∧ LenP (c + 1) e.f2
 | [], _ => by
  rw [eh]; exact ⟨by simp, fun e he => by rw [List.mem_singleton] at he; rw [he]; exact ⟨by simp [jv], by simp [jv, LenP]⟩⟩
 | y :: l, h => by
  have hw : ∀ e ∈ l, e.f2 ≠ [] ∧ LenP (c + 1) e.f2 := fun e he => by
   have := h e (List.mem_cons_of_mem _ he); exact ⟨this.1, by have := this.2.1; omega, fun q hq => by have := this.2.2 q hq; omega⟩
  have hy := h y (by simp); have hy2 : y.f2 ≠ [] ∧ LenP (c + 1) y.f2 := ⟨hy.1, by have := hy.2.1; omega, fun q hq => by have := hy.2.2 q hq; omega⟩; rw [eh]; split
  ·have ih := k8 (c := c) (p := p) (id := id) (x := x) (l := l) (fun e he => h e (List.mem_cons_of_mem _ he)); refine ⟨by simp; exact ih.1, fun e he => ?_⟩; rcases List.mem_cons.1 he with he | he
   ·rw [he]; exact hy2
   ·exact ih.2 e he
  ·split
   ·refine ⟨by simp, fun e he => ?_⟩; rcases List.mem_cons.1 he with he | he
    ·rw [he]; exact ⟨rm _ _ _, LenP.step hy.2 id x⟩
    ·exact hw e he
   ·refine ⟨by simp, fun e he => ?_⟩; rcases List.mem_cons.1 he with he | he
    ·rw [he]; exact ⟨by simp [jv], by simp [jv, LenP]⟩
    ·rcases List.mem_cons.1 he with he | he
     ·rw [he]; exact hy2
     ·exact hw e he
theorem oO {c : Nat} {l : List S76} (h : fu c l) (p : ByteArray × ByteArray) (id x : Int) : fu (c + 1) (eh p id x l) := by
 have := k8 (c := c) (p := p) (id := id) (x := x) h.2; exact ⟨by have := h.1; omega, this.2⟩
theorem eo : ∀ (x y : List UInt8), Op.bytesLess x y = decide (x < y)
 | [], [] => by simp [Op.bytesLess]
 | _ :: _, [] => by simp [Op.bytesLess]
 | [], _ :: _ => by simp [Op.bytesLess]
 | a :: x, b :: y => by
  rw [Op.bytesLess, eo x y]; simp only [List.cons_lt_cons_iff]; by_cases h1 : a < b <;> by_cases h2 : a = b <;> by_cases h3 : x < y <;> simp [h1, h2, h3]
theorem fa (l : List S76) (j : Nat) (h : j < l.length) : ab l (j : Int) = l[j] := by
 unfold ab; simp [List.getD_eq_getElem?_getD, List.getElem?_eq_getElem h]
theorem sg (l : List S76) (p : ByteArray × ByteArray) (id x : Int) (hn : l.length ≤ 1099511627776) : ∀ (d i : Nat), i + d = l.length →
  ∃ (j : Nat) (b : Bool), Ev (fun k => aW.l0 k l p.1 p.2 (i : Int)) ((j : Int), b) ∧ i ≤ j ∧ j ≤ l.length ∧ (b = true → ∃ h : j < l.length, eh p id x (l.drop i) = (l.drop i).set (j - i) (mr id x l[j])) ∧
   (b = false → eh p id x (l.drop i) = (l.drop i).take (j - i) ++ [jv p id x] ++ l.drop j) := by
 intro d; induction d with
 | zero =>
  intro i hi; refine ⟨i, false, Ev.step (fun k => aW.l0.eq_2 _ _ _ _ _) ?_, Nat.le_refl _, by omega, fun h => (by cases h), fun _ => ?_⟩
  ·simp only [if_neg (show ¬ ((i : Int) < (l.length : Int)) by omega)]; exact Ev.now _
  ·rw [List.drop_eq_nil_of_le (by omega), eh]; simp
 | succ d ih =>
  intro i hi; have hil : i < l.length := by omega
  have hlt : ltP (ck l[i]) p ↔ (l[i].f0.toList < p.1.toList ∨ l[i].f0.toList = p.1.toList ∧ l[i].f1.toList < p.2.toList) := Iff.rfl; have next : ltP (ck l[i]) p → ∃ (j : Nat) (b : Bool), Ev (fun k => aW.l0 k l p.1 p.2 ((i + 1 : Nat) : Int)) ((j : Int), b) ∧ i ≤ j ∧ j ≤ l.length ∧ (b = true → ∃ h : j < l.length, eh p id x (l.drop i) = (l.drop i).set (j - i) (mr id x l[j])) ∧
   (b = false → eh p id x (l.drop i) = (l.drop i).take (j - i) ++ [jv p id x] ++ l.drop j) := by
   intro h; obtain ⟨j, b, h1, h2, h3, h4, h5⟩ := ih (i + 1) (by omega); have e1 : eh p id x (l.drop i) = l[i] :: eh p id x (l.drop (i + 1)) := by rw [cQ l i hil, eh, if_pos h]
   have e2 : j - i = (j - (i + 1)) + 1 := by omega
   refine ⟨j, b, h1, by omega, h3, fun hb => ?_, fun hb => ?_⟩
   ·obtain ⟨hj, h4⟩ := h4 hb; exact ⟨hj, by rw [e1, h4, e2, cQ l i hil, List.set_cons_succ]⟩
   ·rw [e1, h5 hb, e2, cQ l i hil, List.take_succ_cons]; rfl
  have stop : ∀ b : Bool, ¬ ltP (ck l[i]) p → (b = true ↔ ck l[i] = p) → ∃ (j : Nat) (b' : Bool), Ev (fun _ : Nat => some ((i : Int), b)) ((j : Int), b') ∧ i ≤ j ∧ j ≤ l.length ∧ (b' = true → ∃ h : j < l.length, eh p id x (l.drop i) = (l.drop i).set (j - i) (mr id x l[j])) ∧
   (b' = false → eh p id x (l.drop i) = (l.drop i).take (j - i) ++ [jv p id x] ++ l.drop j) := by
   intro b h hb; refine ⟨i, b, Ev.now _, Nat.le_refl _, by omega, fun hb' => ⟨hil, ?_⟩, fun hb' => ?_⟩
   ·rw [Nat.sub_self, cQ l i hil, eh, if_neg h, if_pos (hb.1 hb'), List.set_cons_zero]
   ·have hk : ck l[i] ≠ p := fun hk => by rw [hb.2 hk] at hb'; cases hb'
    rw [Nat.sub_self, cQ l i hil, eh, if_neg h, if_neg hk, List.take_zero]; rfl
  have lift : ∀ {g : Nat → Option (Int × Bool)}, (∃ (j : Nat) (b : Bool), Ev g ((j : Int), b) ∧ i ≤ j ∧ j ≤ l.length ∧ (b = true → ∃ h : j < l.length, eh p id x (l.drop i) = (l.drop i).set (j - i) (mr id x l[j])) ∧
   (b = false → eh p id x (l.drop i) = (l.drop i).take (j - i) ++ [jv p id x] ++ l.drop j)) → (∀ k, aW.l0 (k + 1) l p.1 p.2 (i : Int) = g k) → ∃ (j : Nat) (b : Bool), Ev (fun k => aW.l0 k l p.1 p.2 (i : Int)) ((j : Int), b) ∧ i ≤ j ∧ j ≤ l.length ∧ (b = true → ∃ h : j < l.length, eh p id x (l.drop i) = (l.drop i).set (j - i) (mr id x l[j])) ∧
   (b = false → eh p id x (l.drop i) = (l.drop i).take (j - i) ++ [jv p id x] ++ l.drop j) := by
   intro g ⟨j, b, h1, h2⟩ he; exact ⟨j, b, Ev.step he h1, h2⟩
  have hgo : ∀ k, aW.l0 (k + 1) l p.1 p.2 (i : Int) = if Op.bytesLess l[i].f0.toList p.1.toList = true then aW.l0 k l p.1 p.2 ((i + 1 : Nat) : Int) else if l[i].f0.toList = p.1.toList then if Op.bytesLess l[i].f1.toList p.2.toList = true then aW.l0 k l p.1 p.2 ((i + 1 : Nat) : Int) else some ((i : Int), l[i].f1.toList == p.2.toList) else some ((i : Int), false) := by
   intro k; rw [aW.l0.eq_2]; simp only [if_pos (show ((i : Int) < (l.length : Int)) by omega), if_pos (show 0 ≤ (i : Int) by omega), fa l i hil, bT i (by omega)]
  by_cases c1 : l[i].f0.toList < p.1.toList
  ·refine lift (next (hlt.2 (.inl c1))) (fun k => ?_); rw [hgo k, if_pos (by rw [eo]; exact decide_eq_true c1)]
  ·by_cases c2 : l[i].f0.toList = p.1.toList
   ·by_cases c3 : l[i].f1.toList < p.2.toList
    ·refine lift (next (hlt.2 (.inr ⟨c2, c3⟩))) (fun k => ?_); rw [hgo k, if_neg (by rw [eo]; simpa using c1), if_pos c2, if_pos (by rw [eo]; exact decide_eq_true c3)]
    ·refine lift (stop (l[i].f1.toList == p.2.toList) (fun h => ?_) ?_) (fun k => ?_)
     ·rcases hlt.1 h with h | h
      ·exact c1 h
      ·exact c3 h.2
     ·rw [beq_iff_eq]; constructor
      ·intro h; exact Prod.ext (toList_inj.1 c2) (toList_inj.1 h)
      ·intro h; rw [← h]; rfl
     ·rw [hgo k, if_neg (by rw [eo]; simpa using c1), if_pos c2, if_neg (by rw [eo]; simpa using c3)]
   ·refine lift (stop false (fun h => ?_) ⟨fun h => (by cases h), fun h => absurd (by rw [← h]; rfl) c2⟩) (fun k => ?_)
    ·rcases hlt.1 h with h | h
     ·exact c1 h
     ·exact c2 h.1
    ·rw [hgo k, if_neg (by rw [eo]; simpa using c1), if_neg c2]
theorem lg (l : List S76) (p : ByteArray × ByteArray) (id x : Int) (hg : fu 999999 l) : Ev (fun k => cm.f k l p.1 p.2 id x) (eh p id x l) := by
 have hlen := hg.1; obtain ⟨j, b, h1, _, h2, h3, h4⟩ := sg l p id x (by omega) l.length 0 (by omega); simp only [List.drop_zero, Nat.sub_zero] at h3 h4; have h1' : Ev (fun k => aW.f k l p.1 p.2) ((j : Int), b) := by simpa [aW.f] using h1
 simp only [cm.f]; refine Ev.bind h1' ?_; cases b with
 | true =>
  obtain ⟨hj, h3⟩ := h3 rfl; have he := hg.2 l[j] (List.getElem_mem hj); have hw : wide l[j].f2 = true := by
   unfold wide
   rw [Bool.and_eq_true, decide_eq_true_eq, List.all_eq_true]; exact ⟨by have := he.2.1; omega, fun q hq => by have := he.2.2 q hq; exact decide_eq_true (by omega)⟩
  simp only [if_true, bP, List.getElem?_eq_getElem hj]; rw [h3]; rw [if_pos ⟨by omega, he.1, hw⟩]; exact Ev.now _
 | false =>
  simp only [if_neg (show ¬ (false = true) by decide), bP]; rw [h4 rfl, if_pos ⟨by omega, by omega, by omega⟩]; exact Ev.now _
theorem ff (id : Int) (name : ByteArray) : ∀ (ts : List ByteArray) (x : Int) (L : List S76) (c : Nat), fu c L → c + ts.length ≤ 1000000 →
  Ev (fun k => cg.ts k id name ts x L) (kS id name ts x L) ∧ fu (c + ts.length) (kS id name ts x L)
 | [], x, L, c, h, hc => ⟨gj (fun k => rfl), by simpa [kS] using h⟩
 | t :: ts, x, L, c, h, hc => by
  rw [List.length_cons] at hc; rw [kS]; by_cases ht : t.size = 0
  ·rw [if_pos ht]; have ih := ff id name ts (x + 1) L (c + 1) (iJ h (by omega)) (by omega); refine ⟨?_, by have := ih.2; rw [List.length_cons]; rw [show c + 1 + ts.length = c + (ts.length + 1) by omega] at this; exact this⟩; simp only [cg.ts, if_pos ht]; exact ih.1
  ·rw [if_neg ht]; have ih := ff id name ts (x + 1) (eh (name, t) id x L) (c + 1) (oO h _ _ _) (by omega); refine ⟨?_, by have := ih.2; rw [List.length_cons]; rw [show c + 1 + ts.length = c + (ts.length + 1) by omega] at this; exact this⟩; simp only [cg.ts, if_neg ht]; exact Ev.bind (lg L (name, t) id x (iJ h (by omega))) ih.1
theorem q8 (w : ByteArray) : (noS w).size ≤ w.size := by
 unfold noS
 split
 ·rw [extract_size w _ (by omega)]; omega
 ·exact Nat.le_refl _
theorem nL (w : ByteArray) : (ft w).size ≤ w.size := by
 unfold ft
 split
 ·exact Nat.zero_le _
 ·exact Nat.le_refl _
theorem oV (s : ByteArray) : (gT s).size ≤ 12 := by
 have h1 := nL (noS (gP (eF s))); have h2 := q8 (gP (eF s)); have h3 := lK (eF s); unfold gT; omega
theorem m0 (s : ByteArray) : ((fI s).all fun t => decide (t.size ≤ 1000000)) = true := by
 rw [List.all_eq_true]; intro t ht; obtain ⟨w, _, rfl⟩ := List.mem_map.1 ht; have := oV w.f0; exact decide_eq_true (by omega)
set_option maxRecDepth 20000 in
theorem hZ (F : List S92) (hF : F.length ≤ 1048576) (id : Int) : ∀ (cs : List S86) (G : List ((ByteArray × ByteArray) × List S50)) (n : Nat), (G.map (·.1)).Nodup → fu n (dy (G.map toE)) → (∀ x ∈ cs, x.f0.size ≤ 1000000 ∧ x.f1.size ≤ 1000) → n + cs.length * 1000 ≤ 1000000 →
  ∃ (G' : List ((ByteArray × ByteArray) × List S50)) (n' : Nat), Ev (fun k => entriesW.cs k F id cs (G, n)) (G', n') ∧ Ev (fun k => cg.cs k F id cs (dy (G.map toE))) (dy (G'.map toE)) ∧ (G'.map (·.1)).Nodup ∧ fu n' (dy (G'.map toE)) ∧ n' ≤ n + cs.length * 1000
 | [], G, n, hn, hg, _, _ => ⟨G, n, gj (fun k => rfl), gj (fun k => rfl), hn, hg, by omega⟩
 | c :: cs, G, n, hn, hg, hs, hc => by
  rw [List.length_cons] at hc; have hsc := hs c (by simp); have hst := fun x hx => hs x (List.mem_cons_of_mem _ hx)
  simp only [entriesW.cs, cg.cs]; have hf := gC c.f0 F (by omega); have hk := ks F hF c.f0; by_cases h1 : ez F c.f0 = 1
  ·have hlen : (fI c.f1).length ≤ 1000 := by rw [l5]; have := fL c.f1; omega
   obtain ⟨hw1, hw2⟩ := ff id c.f0 (fI c.f1) 0 (dy (G.map toE)) n hg (by omega); obtain ⟨hf1, hf2⟩ := ix id c.f0 (fI c.f1) 0 G hn; rw [hf1] at hw1 hw2; obtain ⟨G', n', e1, e2, e3, e4, e5⟩ := hZ F hF id cs (f4 id c.f0 (fI c.f1) 0 G) (n + (fI c.f1).length) hf2 hw2 hst (by omega); refine ⟨G', n', ?_, ?_, e3, e4, by rw [List.length_cons]; omega⟩
   ·refine Ev.bind hf ?_; have h1' : (em c.f0 F).2.1 = 1 := h1; simp only [if_pos h1']; refine Ev.bind (lR c.f1 (by omega)) ?_; have hcond : n + (fI c.f1).length ≤ 1000000 ∧ c.f0.size ≤ 1000000 ∧ ((fI c.f1).all fun t => decide (t.size ≤ 1000000)) = true := ⟨by omega, by omega, m0 _⟩; simp only [if_pos hcond]; exact e1
   ·refine Ev.bind hk ?_; simp only [h1, beq_self_eq_true, if_true]; refine Ev.bind (l6 c.f1 (by omega)) ?_; exact Ev.bind hw1 e2
  ·obtain ⟨G', n', e1, e2, e3, e4, e5⟩ := hZ F hF id cs G n hn hg hst (by omega); refine ⟨G', n', ?_, ?_, e3, e4, by rw [List.length_cons]; omega⟩
   ·refine Ev.bind hf ?_; have h1' : ¬ (em c.f0 F).2.1 = 1 := h1; simp only [if_neg h1']; exact e1
   ·refine Ev.bind hk ?_; rw [beq_eq_false_iff_ne.2 h1]; simp only [if_neg (show ¬ (false = true) by decide)]; exact e2
set_option maxRecDepth 20000 in
theorem kH (F : List S92) (hF : F.length ≤ 1048576) : ∀ (rs : List S46) (G : List ((ByteArray × ByteArray) × List S50)) (n : Nat), (G.map (·.1)).Nodup → fu n (dy (G.map toE)) → (∀ r ∈ rs, r.f1.f1.length ≤ 4 ∧ ∀ x ∈ r.f1.f1, x.f0.size ≤ 1000000 ∧ x.f1.size ≤ 1000) → n + rs.length * 4000 ≤ 1000000 →
  ∃ (G' : List ((ByteArray × ByteArray) × List S50)) (n' : Nat), Ev (fun k => entriesW.rs k F rs (G, n)) (G', n') ∧ Ev (fun k => bz.rs k F rs (dy (G.map toE))) (dy (G'.map toE)) ∧ (fu n' (dy (G'.map toE)) ∧ (G'.map (·.1)).Nodup) ∧ n' ≤ n + rs.length * 4000
 | [], G, n, hn, hg, _, _ => ⟨G, n, gj (fun k => rfl), gj (fun k => rfl), ⟨hg, hn⟩, by omega⟩
 | r :: rs, G, n, hn, hg, hs, hc => by
  rw [List.length_cons] at hc; have hsr := hs r (by simp); obtain ⟨G1, n1, e1, e2, e3, e4, e5⟩ := hZ F hF r.f0 r.f1.f1 G n hn hg hsr.2 (by omega); obtain ⟨G2, n2, d1, d2, d4, d5⟩ := kH F hF rs G1 n1 e3 e4 (fun x hx => hs x (List.mem_cons_of_mem _ hx)) (by omega); refine ⟨G2, n2, ?_, ?_, d4, by rw [List.length_cons]; omega⟩
  ·simp only [entriesW.rs]; exact Ev.bind e1 d1
  ·simp only [bz.rs]; exact Ev.bind e2 d2
theorem kY (F : List S92) (hF : F.length ≤ 1048576) (rs : List S46) (hs : ∀ r ∈ rs, r.f1.f1.length ≤ 4 ∧ ∀ x ∈ r.f1.f1, x.f0.size ≤ 1000000 ∧ x.f1.size ≤ 1000) (hc : rs.length ≤ 8) :
  ∃ L : List S76, Ev (fun k => dA.f k F rs) L ∧ Ev (fun k => bz.f k F rs) L ∧ fZ L := by
 have hg : fu 0 (dy (([] : List ((ByteArray × ByteArray) × List S50)).map toE)) := ⟨Nat.le_refl _, fun e he => by cases he⟩; obtain ⟨G, n, e1, e2, ⟨e3, e5⟩, e4⟩ := kH F hF rs [] 0 List.nodup_nil hg hs (by omega); refine ⟨dy (G.map toE), ?_, ?_, eZ _ (by rw [lI]; exact e5)⟩
 ·simp only [dA.f, entriesW.f]; exact Ev.bind e1 (Ev.now _)
 ·simp only [bz.f]; exact e2
def f8 (f : S92) : Prop := (f.f1 = 1 ∧ 1 ≤ f.f2 ∧ f.f2 ≤ 9) ∨ (2 ≤ f.f1 ∧ f.f1 ≤ 3 ∧ f.f2 = 0)
def dD (l : List Int) (j : Nat) : Prop := (∀ (i : Nat) (h : i < l.length), j ≤ i → lN l[i] ∨ (0 < i ∧ lV l[i])) ∧ 1 ≤ l.length ∧ l.length ≤ 8
def dt (l : List S92) (j : Nat) : Prop := (∀ (i : Nat) (h : i < l.length), j ≤ i → dD (am l[i].f0) 0 ∧ f8 l[i] ∧ ∀ m (hm : m < i), l[m].f0 ≠ l[i].f0) ∧ 1 ≤ l.length ∧ l.length ≤ 4
open Classical in
noncomputable def fh (l : List S92) : Bool := decide (dt l 0)
def ik (F : List S92) (R : List S46) (E : List S76) (n : Int) : Prop :=
 fh F = true ∧ R.length ≤ 8 ∧ (0 ≤ n ∧ n ≤ 999999999) ∧ Ev (fun k => bz.f k F R) E
open Classical in
noncomputable def eU (l : List Int) : Bool := decide (dD l 0)
def py (a b : ByteArray) : Prop := Op.bytesLess a.toList b.toList = true
def sa (c : Int) : Prop := 32 ≤ c ∧ c ≤ 126
open Classical in
noncomputable def eu (s : ByteArray) (m : Int) : Bool := decide ((∀ c ∈ am s, sa c) ∧ (s.size : Int) ≤ m)
def gg (key : ByteArray) (l : List S86) (j : Nat) : Prop := (∀ (i : Nat) (h : i < l.length), j ≤ i → eU (am l[i].f0) = true ∧ eu l[i].f1 60 = true ∧ ∀ h0 : 0 < i, py (l[i - 1]'(by omega)).f0 l[i].f0) ∧ eU (am key) = true ∧ l.length ≤ 4
open Classical in
noncomputable def j6 (key : ByteArray) (l : List S86) : Bool := decide (gg key l 0)
def gn (l : List ByteArray) : Prop := ∀ x ∈ l, eU (am x) = true
def ey (c : UInt8) : Nat → List UInt8 → List UInt8 → List (List UInt8)
 | _, acc, [] => [acc]
 | 0, acc, x :: xs => [acc ++ x :: xs]
 | n + 1, acc, x :: xs => if x = c then acc :: ey c n [] xs else ey c (n + 1) (acc ++ [x]) xs
def mkT (l : List UInt8) : ByteArray := ⟨l.toArray⟩
def ef (c : UInt8) (s : ByteArray) : List ByteArray := (ey c (s.data.toList.count c) [] s.data.toList).map mkT
def lh (s : ByteArray) : Prop := gn (ef 44 s) ∧ (ef 44 s).length ≤ 4
def iB (s : ByteArray) : Int × Bool := match Lib.atoiAll s.data.toList with
 | .ok n => if -999999999 ≤ n ∧ n ≤ 999999999 ∧ Lib.itoa n = s.data.toList then (n, true) else (0, false)
 | _ => (0, false)
def j3 (kind : Int) (s : ByteArray) : Prop := kind = 1 ∨ (kind = 2 ∧ (iB s).2 = true) ∨ (kind = 3 ∧ lh s)
def jG (F : List S92) (key : ByteArray) (l : List S86) : Prop := fh F = true ∧ j6 key l = true ∧ ∀ c ∈ l, j3 (ez F c.f0) c.f1
open Classical in
noncomputable def gI (F : List S92) (key : ByteArray) (l : List S86) : Bool := decide (jG F key l)
def n9 (F : List S92) (R : List S46) (n : Int) (i : Nat) (h : i < R.length) : Prop :=
 gI F R[i].f1.f0 R[i].f1.f1 = true ∧ d8 R[i].f1.f0 0 R = (i : Int) ∧ (0 ≤ R[i].f0 ∧ R[i].f0 ≤ wrap64 (n - 1)) ∧ ∀ h0 : 0 < i, (R[i - 1]'(by omega)).f0 < R[i].f0
def dn (F : List S92) (R : List S46) (n : Int) (i : Nat) : Prop := ∀ (j : Nat) (h : j < R.length), i ≤ j → n9 F R n j h
open Classical in
noncomputable def gt (F : List S92) (R : List S46) (E : List S76) (n : Int) : Bool := decide (dn F R n 0 ∧ ik F R E n)
open Classical in
theorem gh {l : List Int} : eU l = true ↔ dD l 0 := by unfold eU; exact decide_eq_true_iff
open Classical in
theorem lc {key : ByteArray} {l : List S86} (h : j6 key l = true) : (∀ c ∈ l, eU (am c.f0) = true ∧ eu c.f1 60 = true) ∧ eU (am key) = true ∧ l.length ≤ 4 := by
 unfold j6 at h
 have h1 := decide_eq_true_iff.1 h; refine ⟨fun c hc => ?_, h1.2⟩; obtain ⟨i, hi, rfl⟩ := List.mem_iff_getElem.1 hc; have h2 := h1.1 i hi (Nat.zero_le _); exact ⟨h2.1, h2.2.1⟩
open Classical in
theorem o0 {s : ByteArray} {m : Int} (h : eu s m = true) : (s.size : Int) ≤ m := by
 unfold eu at h
 exact (decide_eq_true_iff.1 h).2
open Classical in
theorem jm {F : List S92} {R : List S46} {n : Int} (h : dn F R n 0) : ∀ r ∈ R, r.f1.f1.length ≤ 4 ∧ ∀ x ∈ r.f1.f1, x.f0.size ≤ 1000000 ∧ x.f1.size ≤ 1000 := by
 intro r hr; obtain ⟨i, hi, rfl⟩ := List.mem_iff_getElem.1 hr; have h1 := (h i hi (Nat.zero_le _)).1; have hp : jG F R[i].f1.f0 R[i].f1.f1 := by unfold gI at h1; exact of_decide_eq_true h1
 have hf := lc hp.2.1; refine ⟨hf.2.2, fun x hx => ?_⟩; have h2 := hf.1 x hx; have h3 := o0 h2.2; have h4 := (gh.1 h2.1).2.2; rw [bW] at h4; exact ⟨by omega, by omega⟩
open Classical in
theorem jX {F : List S92} {R : List S46} {E : List S76} {n : Int} (hF : F.length ≤ 1048576) (h : gt F R E n = true) : fZ E := by
 unfold gt at h
 obtain ⟨h1, _, h2, _, h3⟩ := of_decide_eq_true h; obtain ⟨L, _, e2, hs⟩ := kY F hF R (jm h1) h2; exact (jp h3 e2) ▸ hs
def fv (f t : ByteArray) : List S76 → List S50
 | [] => []
 | e :: l => if e.f0.toList = f.toList then (if e.f1.toList = t.toList then e.f2 ++ fv f t l else fv f t l) else fv f t l
theorem mH (f t : ByteArray) : ∀ (l : List S76) (p : S50), p ∈ fv f t l → ∃ e ∈ l, p ∈ e.f2
 | [], p, h => by simp [fv] at h
 | e :: l, p, h => by
  rw [fv] at h; have ih := mH f t l p; split at h
  ·split at h
   ·rcases List.mem_append.1 h with h | h
    ·exact ⟨e, by simp, h⟩
    ·obtain ⟨x, hx, hp⟩ := ih h; exact ⟨x, List.mem_cons_of_mem _ hx, hp⟩
   ·obtain ⟨x, hx, hp⟩ := ih h; exact ⟨x, List.mem_cons_of_mem _ hx, hp⟩
  ·obtain ⟨x, hx, hp⟩ := ih h; exact ⟨x, List.mem_cons_of_mem _ hx, hp⟩
theorem gw (f t : ByteArray) : ∀ l : List S76, (∀ e ∈ l, ck e ≠ (f, t)) → fv f t l = []
 | [], _ => rfl
 | e :: l, h => by
  rw [fv, gw f t l (fun x hx => h x (List.mem_cons_of_mem _ hx))]; split
  ·rename_i h1
   rw [if_neg (show ¬ e.f1.toList = t.toList from fun h2 => h e (by simp) (Prod.ext (toList_inj.1 h1) (toList_inj.1 h2)))]
  ·rfl
theorem jK (f t : ByteArray) : ∀ l : List S76, fZ l → ∀ e ∈ l, ck e = (f, t) → fv f t l = e.f2
 | [], _, e, h, _ => by simp at h
 | x :: l, hs, e, h, hk => by
  obtain ⟨h1, h2⟩ := List.pairwise_cons.1 hs; rw [fv]; rcases List.mem_cons.1 h with rfl | h
  ·have h3 : e.f0 = f := congrArg Prod.fst hk; have h4 : e.f1 = t := congrArg Prod.snd hk; rw [if_pos (by rw [h3]), if_pos (by rw [h4]), gw f t l (fun y hy he => dN (ck e) (by have := h1 y hy; rwa [he, ← hk] at this)), List.append_nil]
  ·have h3 := h1 e h; rw [hk] at h3; have h4 : ¬ (x.f0.toList = f.toList ∧ x.f1.toList = t.toList) := fun h5 => dN (f, t) (by
    have h6 : ck x = (f, t) := Prod.ext (toList_inj.1 h5.1) (toList_inj.1 h5.2); rwa [h6] at h3)
   have ih := jK f t l h2 e h hk; split
   ·rename_i h5
    rw [if_neg (fun h6 => h4 ⟨h5, h6⟩)]; exact ih
   ·exact ih
noncomputable def fX (F : List S92) (R : List S46) (E : List S76) (n : Int) (f t : ByteArray) : List S50 := if gt F R E n = true then fv f t E else []
set_option maxRecDepth 20000 in
theorem ma {F : List S92} {R : List S46} {E : List S76} (hz : f3 F R E) (n : Int) (f t : ByteArray) : (fX F R E n f t).length ≤ 1048576 ∧ ∀ p ∈ fX F R E n f t, p.f1.length ≤ 1048576 := by
 unfold fX
 split
 ·rename_i hb
  have hs := jX hz.f hb; refine ⟨?_, fun p hp => ?_⟩
  ·by_cases h : ∃ e ∈ E, ck e = (f, t)
   ·obtain ⟨e, he, hk⟩ := h; rw [jK f t E hs e he hk]; exact (hz.es e he).1
   ·rw [gw f t E (fun e he hk => h ⟨e, he, hk⟩)]; exact Nat.zero_le _
  ·obtain ⟨e, he, h⟩ := mH f t E p hp; exact (hz.es e he).2 p h
 ·exact ⟨Nat.zero_le _, fun p hp => by cases hp⟩
open Classical in
theorem o9 (x y : S92) : dL.f x.f0 x.f1 x.f2 y.f0 y.f1 y.f2 = some (decide (x = y)) := by
 obtain ⟨a0, a1, a2⟩ := x; obtain ⟨b0, b1, b2⟩ := y; simp only [dL.f, toList_inj]; by_cases h0 : a0 = b0
 case neg => simp [h0]
 by_cases h1 : a1 = b1
 case neg => simp [h0, h1]
 by_cases h2 : a2 = b2
 case neg => simp [h0, h1, h2]
 simp [h0, h1, h2]
theorem ct {α : Type} {a b : List α} {j : Nat} (ha : j < a.length) (hb : j < b.length) : a.drop j = b.drop j ↔ a[j] = b[j] ∧ a.drop (j + 1) = b.drop (j + 1) := by
 rw [List.drop_eq_getElem_cons ha, List.drop_eq_getElem_cons hb, List.cons.injEq]
open Classical in
theorem od (a b : List S92) (hn : a.length < 4611686018427387904) (hl : a.length = b.length) : ∀ (d i : Nat), i + d = a.length →
  Ev (fun k => aC.l0 k a b (i : Int)) (decide (a.drop i = b.drop i)) := by
 intro d; induction d with
 | zero =>
  intro i hi; refine Ev.step (fun k => aC.l0.eq_2 _ _ _ _) ?_; simp only [if_neg (show ¬ ((i : Int) < (a.length : Int)) by omega)]; rw [List.drop_of_length_le (by omega), List.drop_of_length_le (by omega)]; exact kx rfl (Ev.now _)
 | succ d ih =>
  intro i hi; refine Ev.step (fun k => aC.l0.eq_2 _ _ _ _) ?_; simp only [if_pos (show ((i : Int) < (a.length : Int)) by omega), if_pos (show 0 ≤ (i : Int) by omega), if_pos (show ((i : Int) < (b.length : Int)) by omega), bT i (by omega), en a i (by omega), en b i (by omega), o9, Option.bind_some, decide_eq_true_eq]; have hs := ct (a := a) (b := b) (show i < a.length by omega) (show i < b.length by omega); by_cases h : a[i] = b[i]
  ·simp only [if_pos h]; exact cN (hs.trans ⟨fun h1 => h1.2, fun h1 => ⟨h, h1⟩⟩).symm (ih (i + 1) (by omega))
  ·simp only [if_neg h]; exact cA (fun h1 => h (hs.1 h1).1) (Ev.now _)
open Classical in
theorem nB (a b : List S92) (hn : a.length < 4611686018427387904) : Ev (fun k => aC.f k a b) (decide (a = b)) := by
 simp only [aC.f]; by_cases hl : a.length = b.length
 ·simp only [if_pos (show (a.length : Int) = (b.length : Int) by omega)]; exact od a b hn hl a.length 0 (by omega)
 ·simp only [if_neg (show ¬ (a.length : Int) = (b.length : Int) by omega)]; exact cA (fun h => hl (by rw [h])) (Ev.now _)
open Classical in
theorem mh (a : List S92) (hn : a.length < 4611686018427387904) : Ev (fun k => aC.f k a a) true := by
 have := nB a a hn; rwa [decide_eq_true rfl] at this
theorem p8 (l : List S76) (j : Nat) (h : j < l.length) : ab l (j : Int) = l[j] := by
 unfold ab; simp [List.getD_eq_getElem?_getD, List.getElem?_eq_getElem h]
def pI (x : S76) : Prop := x.f2.length ≤ 1048576 ∧ ∀ p ∈ x.f2, oJ p
theorem nj (x : S76) (hx : pI x) : Ev (fun k => dP.f k x.f0 x.f1 x.f2 x.f0 x.f1 x.f2) true := by
 simp only [dP.f, if_true]; refine Ev.bind (iW x.f2 hx.1 hx.2) ?_; simp only [if_true]; exact Ev.now _
theorem ml (a : List S76) (hn : a.length ≤ 1048576) (hs : ∀ x ∈ a, pI x) : Ev (fun k => aH.f k a a) true := by
 have main : ∀ (d i : Nat), i + d = a.length → Ev (fun k => aH.l0 k a a (i : Int)) true := by
  intro d; induction d with
  | zero =>
   intro i hi; refine Ev.step (fun k => aH.l0.eq_2 _ _ _ _) ?_; simp only [if_neg (show ¬ ((i : Int) < (a.length : Int)) by omega)]; exact Ev.now _
  | succ d ih =>
   intro i hi; refine Ev.step (fun k => aH.l0.eq_2 _ _ _ _) ?_; simp only [if_pos (show ((i : Int) < (a.length : Int)) by omega), if_pos (show 0 ≤ (i : Int) by omega), bT i (by omega), p8 a i (by omega)]; refine Ev.bind (nj a[i] (hs _ (List.getElem_mem _))) ?_; simp only [if_true]; exact ih (i + 1) (by omega)
 simp only [aH.f, if_true]; exact main a.length 0 (by omega)
theorem sm (l : List S46) (j : Nat) (h : j < l.length) : ah l (j : Int) = l[j] := by
 unfold ah; simp [List.getD_eq_getElem?_getD, List.getElem?_eq_getElem h]
open Classical in
theorem qp (x y : S86) : ei.f x.f0 x.f1 y.f0 y.f1 = some (decide (x = y)) := by
 obtain ⟨a0, a1⟩ := x; obtain ⟨b0, b1⟩ := y; simp only [ei.f, toList_inj]; by_cases h0 : a0 = b0
 case neg => simp [h0]
 by_cases h1 : a1 = b1
 case neg => simp [h0, h1]
 simp [h0, h1]
theorem fi (l : List S86) (j : Nat) (h : j < l.length) : ai l (j : Int) = l[j] := by
 unfold ai; simp [List.getD_eq_getElem?_getD, List.getElem?_eq_getElem h]
open Classical in
theorem pe (a b : List S86) (hn : a.length < 4611686018427387904) (hl : a.length = b.length) : ∀ (d i : Nat), i + d = a.length →
  Ev (fun k => aY.l0 k a b (i : Int)) (decide (a.drop i = b.drop i)) := by
 intro d; induction d with
 | zero =>
  intro i hi; refine Ev.step (fun k => aY.l0.eq_2 _ _ _ _) ?_; simp only [if_neg (show ¬ ((i : Int) < (a.length : Int)) by omega)]; rw [List.drop_of_length_le (by omega), List.drop_of_length_le (by omega)]; exact kx rfl (Ev.now _)
 | succ d ih =>
  intro i hi; refine Ev.step (fun k => aY.l0.eq_2 _ _ _ _) ?_; simp only [if_pos (show ((i : Int) < (a.length : Int)) by omega), if_pos (show 0 ≤ (i : Int) by omega), if_pos (show ((i : Int) < (b.length : Int)) by omega), bT i (by omega), fi a i (by omega), fi b i (by omega), qp, Option.bind_some, decide_eq_true_eq]; have hs := ct (a := a) (b := b) (show i < a.length by omega) (show i < b.length by omega); by_cases h : a[i] = b[i]
  ·simp only [if_pos h]; exact cN (hs.trans ⟨fun h1 => h1.2, fun h1 => ⟨h, h1⟩⟩).symm (ih (i + 1) (by omega))
  ·simp only [if_neg h]; exact cA (fun h1 => h (hs.1 h1).1) (Ev.now _)
open Classical in
theorem oL (a b : List S86) (hn : a.length < 4611686018427387904) : Ev (fun k => aY.f k a b) (decide (a = b)) := by
 simp only [aY.f]; by_cases hl : a.length = b.length
 ·simp only [if_pos (show (a.length : Int) = (b.length : Int) by omega)]; exact pe a b hn hl a.length 0 (by omega)
 ·simp only [if_neg (show ¬ (a.length : Int) = (b.length : Int) by omega)]; exact cA (fun h => hl (by rw [h])) (Ev.now _)
open Classical in
theorem re (k1 : ByteArray) (c1 : List S86) (k2 : ByteArray) (c2 : List S86) (hn : c1.length < 4611686018427387904) : Ev (fun k => dM.f k k1 c1 k2 c2) (decide (k1 = k2 ∧ c1 = c2)) := by
 simp only [dM.f, toList_inj]; by_cases h : k1 = k2
 ·simp only [if_pos h]; refine Ev.bind (oL c1 c2 hn) ?_; by_cases h2 : c1 = c2
  ·simp only [decide_eq_true h2, if_true]; exact kx ⟨h, h2⟩ (Ev.now _)
  ·simp only [decide_eq_false h2]; exact cA (fun h3 => h2 h3.2) (Ev.now _)
 ·simp only [if_neg h]; exact cA (fun h3 => h h3.1) (Ev.now _)
open Classical in
theorem o4 (k1 : ByteArray) (c1 : List S86) (hn : c1.length < 4611686018427387904) : Ev (fun k => dM.f k k1 c1 k1 c1) true := by
 have := re k1 c1 k1 c1 hn; rwa [decide_eq_true ⟨rfl, rfl⟩] at this
def rc (x : S46) : Prop := x.f1.f1.length ≤ 1048576
theorem pa (x : S46) (hx : rc x) : Ev (fun k => eN.f k x.f0 x.f1.f0 x.f1.f1 x.f0 x.f1.f0 x.f1.f1) true := by
 simp only [eN.f, if_true]; refine Ev.bind (o4 x.f1.f0 x.f1.f1 (by unfold rc at hx; omega)) ?_; simp only [if_true]; exact Ev.now _
theorem nA (a : List S46) (hn : a.length ≤ 1048576) (hs : ∀ x ∈ a, rc x) : Ev (fun k => bb.f k a a) true := by
 have main : ∀ (d i : Nat), i + d = a.length → Ev (fun k => bb.l0 k a a (i : Int)) true := by
  intro d; induction d with
  | zero =>
   intro i hi; refine Ev.step (fun k => bb.l0.eq_2 _ _ _ _) ?_; simp only [if_neg (show ¬ ((i : Int) < (a.length : Int)) by omega)]; exact Ev.now _
  | succ d ih =>
   intro i hi; refine Ev.step (fun k => bb.l0.eq_2 _ _ _ _) ?_; simp only [if_pos (show ((i : Int) < (a.length : Int)) by omega), if_pos (show 0 ≤ (i : Int) by omega), bT i (by omega), sm a i (by omega)]; refine Ev.bind (pa a[i] (hs _ (List.getElem_mem _))) ?_; simp only [if_true]; exact ih (i + 1) (by omega)
 simp only [bb.f, if_true]; exact main a.length 0 (by omega)
theorem mZ {F : List S92} {R : List S46} {E : List S76} (h : f3 F R E) (n : Int) : Ev (fun k => dR.f k F R E n F R E n) true := by
 simp only [dR.f]; refine Ev.bind (mh F (by have := h.f; omega)) ?_; simp only [if_true]; refine Ev.bind (nA R h.r (fun x hx => (h.rs x hx).2.1)) ?_; simp only [if_true]; refine Ev.bind (ml E h.e (fun x hx => h.es x hx)) ?_; simp only [if_true]; exact Ev.now _
def lJ (x : dF) : S86 := ⟨x.f0, x.f1⟩
def fQ (x : d9) : Prop := x.f0.size ≤ 1048576
def eQ (x : dY) : Prop := x.f1.length ≤ 1048576
def eG (x : dZ) : Prop := x.f2.length ≤ 1048576 ∧ ∀ p ∈ x.f2, eQ p
def fE (x : dF) : Prop := x.f0.size ≤ 1048576 ∧ x.f1.size ≤ 1048576
def fN (x : dX) : Prop := x.f1.f0.size ≤ 1048576 ∧ x.f1.f1.length ≤ 1048576 ∧ ∀ c ∈ x.f1.f1, fE c
def oZ (F : List d9) (R : List dX) (E : List dZ) : Prop :=
 (F.length ≤ 1048576 ∧ ∀ x ∈ F, fQ x) ∧ (R.length ≤ 1048576 ∧ ∀ x ∈ R, fN x) ∧ (E.length ≤ 1048576 ∧ ∀ x ∈ E, eG x)
def jb (x : dY) : S50 := ⟨x.f0, x.f1⟩
def fF (x : dZ) : S76 := ⟨x.f0, x.f1, x.f2.map jb⟩
def kT (x : dX) : S46 := ⟨x.f0, ⟨x.f1.f0, x.f1.f1.map lJ⟩⟩
theorem qh {F : List d9} {R : List dX} {E : List dZ} (h : oZ F R E) : f3 (F.map iH) (R.map kT) (E.map fF) := by
 obtain ⟨⟨f1, f2⟩, ⟨r1, r2⟩, ⟨e1, e2⟩⟩ := h; refine ⟨by rw [List.length_map]; exact f1, fun x hx => ?_, by rw [List.length_map]; exact r1, fun x hx => ?_, by rw [List.length_map]; exact e1, fun x hx => ?_⟩
 ·obtain ⟨y, hy, rfl⟩ := List.mem_map.1 hx; exact f2 y hy
 ·obtain ⟨y, hy, rfl⟩ := List.mem_map.1 hx; obtain ⟨a, b, c⟩ := r2 y hy; refine ⟨a, by show (y.f1.f1.map lJ).length ≤ _; rw [List.length_map]; exact b, fun z hz => ?_⟩; obtain ⟨u, hu, rfl⟩ := List.mem_map.1 hz; exact c u hu
 ·obtain ⟨y, hy, rfl⟩ := List.mem_map.1 hx; obtain ⟨a, b⟩ := e2 y hy; refine ⟨by show (y.f2.map jb).length ≤ _; rw [List.length_map]; exact a, fun z hz => ?_⟩; obtain ⟨u, hu, rfl⟩ := List.mem_map.1 hz; exact b u hu
theorem jq (l : List d9) (j : Nat) (h : j < l.length) : dl l (j : Int) = l[j] := by
 unfold dl; simp [List.getD_eq_getElem?_getD, List.getElem?_eq_getElem h]
theorem pg (x : d9) (a : Int) (hx : fz x) (h0 : 0 ≤ a) (h1 : a ≤ 1048576) : ∃ r, dB.f x.f0 x.f1 x.f2 a = some r ∧ (r = -1 ∨ (0 ≤ r ∧ r ≤ a ∧ fQ x)) := by
 unfold fz at hx
 unfold fQ
 unfold dB.f
 rw [br (x := a - (x.f0.size : Int)) (by omega) (by omega)]; by_cases h20 : a - (x.f0.size : Int) < 0
 ·rw [if_pos h20]; exact ⟨_, rfl, .inl rfl⟩
 rw [if_neg h20]; exact ⟨_, rfl, .inr ⟨by omega, by omega, by omega⟩⟩
theorem nP (l : List d9) (hl : l.length ≤ 1048576) (hg : ∀ x ∈ l, fz x) : ∀ (d i : Nat) (a : Int), i + d = l.length → 0 ≤ a → a ≤ 1048576 →
  ∃ r, Ev (fun k => bn.l0 k l a (i : Int)) r ∧ (r = -1 ∨ (0 ≤ r ∧ r ≤ a ∧ ∀ x ∈ l.drop i, fQ x)) := by
 intro d; induction d with
 | zero =>
  intro i a hi h0 h1; refine ⟨a, Ev.step (fun k => bn.l0.eq_2 _ _ _ _) ?_, .inr ⟨h0, Int.le_refl _, fun x hx => ?_⟩⟩
  ·simp only [if_neg (show ¬ ((i : Int) < (l.length : Int)) by omega)]; exact Ev.now _
  ·rw [List.drop_of_length_le (by omega)] at hx; cases hx
 | succ d ih =>
  intro i a hi h0 h1; obtain ⟨r1, hr1, hc⟩ := pg l[i] a (hg _ (List.getElem_mem _)) h0 h1; rcases hc with hc | ⟨hc0, hc1, hc2⟩
  ·refine ⟨-1, Ev.step (fun k => bn.l0.eq_2 _ _ _ _) ?_, .inl rfl⟩; simp only [if_pos (show ((i : Int) < (l.length : Int)) by omega), if_pos (show 0 ≤ (i : Int) by omega), jq l i (by omega), hr1, Option.bind_some, hc]; exact Ev.now _
  ·obtain ⟨r, hr, hq⟩ := ih (i + 1) r1 (by omega) hc0 (by omega); refine ⟨r, Ev.step (fun k => bn.l0.eq_2 _ _ _ _) ?_, ?_⟩
   ·simp only [if_pos (show ((i : Int) < (l.length : Int)) by omega), if_pos (show 0 ≤ (i : Int) by omega), jq l i (by omega), hr1, Option.bind_some, if_neg (show ¬ r1 < 0 by omega), bT i (by omega)]; exact hr
   ·rcases hq with hq | ⟨q0, q1, q2⟩
    ·exact .inl hq
    ·refine .inr ⟨q0, by omega, fun x hx => ?_⟩; rcases (dW (show i < l.length by omega)).1 hx with hx | hx
     ·rw [hx]; exact hc2
     ·exact q2 x hx
theorem oB (l : List d9) (hl : l.length ≤ 9223372036854775807) (hg : ∀ x ∈ l, fz x) (a : Int) (h0 : 0 ≤ a) (h1 : a ≤ 1048576) :
  ∃ r, Ev (fun k => bn.f k l a) r ∧ (r = -1 ∨ (0 ≤ r ∧ r ≤ a ∧ l.length ≤ 1048576 ∧ ∀ x ∈ l, fQ x)) := by
 simp only [bn.f, br (x := a - (l.length : Int)) (by omega) (by omega)]; by_cases h2 : a - (l.length : Int) < 0
 ·simp only [if_pos h2]; exact ⟨-1, Ev.now _, .inl rfl⟩
 ·simp only [if_neg h2]; obtain ⟨r, hr, hq⟩ := nP l (by omega) hg l.length 0 (a - (l.length : Int)) (by omega) (by omega) (by omega); refine ⟨r, hr, ?_⟩; rcases hq with hq | ⟨q0, q1, q2⟩
  ·exact .inl hq
  ·exact .inr ⟨q0, by omega, by omega, q2⟩
theorem ju (l : List dZ) (j : Nat) (h : j < l.length) : da l (j : Int) = l[j] := by
 unfold da; simp [List.getD_eq_getElem?_getD, List.getElem?_eq_getElem h]
theorem kK (l : List dY) (j : Nat) (h : j < l.length) : dx l (j : Int) = l[j] := by
 unfold dx; simp [List.getD_eq_getElem?_getD, List.getElem?_eq_getElem h]
def gM (x : dY) : Prop := x.f1.length ≤ 9223372036854775807
theorem qM (x : dY) (a : Int) (hx : gM x) (h0 : 0 ≤ a) (h1 : a ≤ 1048576) : ∃ r, Ev (fun _ : Nat => dH.f x.f0 x.f1 a) r ∧ (r = -1 ∨ (0 ≤ r ∧ r ≤ a ∧ eQ x)) := by
 unfold gM at hx
 unfold eQ
 simp only [dH.f, ea.f, br (x := a - (x.f1.length : Int)) (by omega) (by omega)]; by_cases h2 : a - (x.f1.length : Int) < 0
 ·simp only [if_pos h2, Option.bind_some, if_pos (show (-1 : Int) < 0 by omega)]; exact ⟨-1, Ev.now _, .inl rfl⟩
 ·simp only [if_neg h2, Option.bind_some]; exact ⟨_, Ev.now _, .inr ⟨by omega, by omega, by omega⟩⟩
theorem ph (l : List dY) (hl : l.length ≤ 1048576) (hg : ∀ x ∈ l, gM x) : ∀ (d i : Nat) (a : Int), i + d = l.length → 0 ≤ a → a ≤ 1048576 →
  ∃ r, Ev (fun k => bL.l0 k l a (i : Int)) r ∧ (r = -1 ∨ (0 ≤ r ∧ r ≤ a ∧ ∀ x ∈ l.drop i, eQ x)) := by
 intro d; induction d with
 | zero =>
  intro i a hi h0 h1; refine ⟨a, Ev.step (fun k => bL.l0.eq_2 _ _ _ _) ?_, .inr ⟨h0, Int.le_refl _, fun x hx => ?_⟩⟩
  ·simp only [if_neg (show ¬ ((i : Int) < (l.length : Int)) by omega)]; exact Ev.now _
  ·rw [List.drop_of_length_le (by omega)] at hx; cases hx
 | succ d ih =>
  intro i a hi h0 h1; obtain ⟨r1, hr1, hc⟩ := qM l[i] a (hg _ (List.getElem_mem _)) h0 h1; rcases hc with hc | ⟨hc0, hc1, hc2⟩
  ·refine ⟨-1, Ev.step (fun k => bL.l0.eq_2 _ _ _ _) ?_, .inl rfl⟩; simp only [if_pos (show ((i : Int) < (l.length : Int)) by omega), if_pos (show 0 ≤ (i : Int) by omega), kK l i (by omega)]; refine Ev.bind hr1 ?_; simp only [if_pos (show r1 < 0 by omega)]; exact Ev.now _
  ·obtain ⟨r, hr, hq⟩ := ih (i + 1) r1 (by omega) hc0 (by omega); refine ⟨r, Ev.step (fun k => bL.l0.eq_2 _ _ _ _) ?_, ?_⟩
   ·simp only [if_pos (show ((i : Int) < (l.length : Int)) by omega), if_pos (show 0 ≤ (i : Int) by omega), kK l i (by omega), bT i (by omega)]; refine Ev.bind hr1 ?_; simp only [if_neg (show ¬ r1 < 0 by omega)]; exact hr
   ·rcases hq with hq | ⟨q0, q1, q2⟩
    ·exact .inl hq
    ·refine .inr ⟨q0, by omega, fun x hx => ?_⟩; rcases (dW (show i < l.length by omega)).1 hx with hx | hx
     ·rw [hx]; exact hc2
     ·exact q2 x hx
theorem oR (l : List dY) (hl : l.length ≤ 9223372036854775807) (hg : ∀ x ∈ l, gM x) (a : Int) (h0 : 0 ≤ a) (h1 : a ≤ 1048576) :
  ∃ r, Ev (fun k => bL.f k l a) r ∧ (r = -1 ∨ (0 ≤ r ∧ r ≤ a ∧ l.length ≤ 1048576 ∧ ∀ x ∈ l, eQ x)) := by
 simp only [bL.f, br (x := a - (l.length : Int)) (by omega) (by omega)]; by_cases h2 : a - (l.length : Int) < 0
 ·simp only [if_pos h2]; exact ⟨-1, Ev.now _, .inl rfl⟩
 ·simp only [if_neg h2]; obtain ⟨r, hr, hq⟩ := ph l (by omega) hg l.length 0 (a - (l.length : Int)) (by omega) (by omega) (by omega); refine ⟨r, hr, ?_⟩; rcases hq with hq | ⟨q0, q1, q2⟩
  ·exact .inl hq
  ·exact .inr ⟨q0, by omega, by omega, q2⟩
def g7 (x : dZ) : Prop := x.f0.size ≤ 9223372036854775807 ∧ x.f1.size ≤ 9223372036854775807 ∧ x.f2.length ≤ 9223372036854775807 ∧ ∀ p ∈ x.f2, gM p
theorem oS (x : dZ) (a : Int) (hx : g7 x) (h0 : 0 ≤ a) (h1 : a ≤ 1048576) : ∃ r, Ev (fun k => dz.f k x.f0 x.f1 x.f2 a) r ∧ (r = -1 ∨ (0 ≤ r ∧ r ≤ a ∧ eG x)) := by
 obtain ⟨w0, w1, w2, w3⟩ := hx; simp only [dz.f, br (x := a - (x.f0.size : Int)) (by omega) (by omega)]; by_cases h2 : a - (x.f0.size : Int) < 0
 ·simp only [if_pos h2]; exact ⟨-1, Ev.now _, .inl rfl⟩
 simp only [if_neg h2, br (x := a - (x.f0.size : Int) - (x.f1.size : Int)) (by omega) (by omega)]; by_cases h3 : a - (x.f0.size : Int) - (x.f1.size : Int) < 0
 ·simp only [if_pos h3]; exact ⟨-1, Ev.now _, .inl rfl⟩
 simp only [if_neg h3]; obtain ⟨r, hr, hq⟩ := oR x.f2 w2 w3 (a - (x.f0.size : Int) - (x.f1.size : Int)) (by omega) (by omega); rcases hq with hq | ⟨q0, q1, q2, q3⟩
 ·exact ⟨-1, Ev.bind hr (by simp only [if_pos (show r < 0 by omega)]; exact Ev.now _), .inl rfl⟩
 ·exact ⟨r, Ev.bind hr (by simp only [if_neg (show ¬ r < 0 by omega)]; exact Ev.now _), .inr ⟨q0, by omega, q2, q3⟩⟩
theorem nV (l : List dZ) (hl : l.length ≤ 1048576) (hg : ∀ x ∈ l, g7 x) : ∀ (d i : Nat) (a : Int), i + d = l.length → 0 ≤ a → a ≤ 1048576 →
  ∃ r, Ev (fun k => bx.l0 k l a (i : Int)) r ∧ (r = -1 ∨ (0 ≤ r ∧ r ≤ a ∧ ∀ x ∈ l.drop i, eG x)) := by
 intro d; induction d with
 | zero =>
  intro i a hi h0 h1; refine ⟨a, Ev.step (fun k => bx.l0.eq_2 _ _ _ _) ?_, .inr ⟨h0, Int.le_refl _, fun x hx => ?_⟩⟩
  ·simp only [if_neg (show ¬ ((i : Int) < (l.length : Int)) by omega)]; exact Ev.now _
  ·rw [List.drop_of_length_le (by omega)] at hx; cases hx
 | succ d ih =>
  intro i a hi h0 h1; obtain ⟨r1, hr1, hc⟩ := oS l[i] a (hg _ (List.getElem_mem _)) h0 h1; rcases hc with hc | ⟨hc0, hc1, hc2⟩
  ·refine ⟨-1, Ev.step (fun k => bx.l0.eq_2 _ _ _ _) ?_, .inl rfl⟩; simp only [if_pos (show ((i : Int) < (l.length : Int)) by omega), if_pos (show 0 ≤ (i : Int) by omega), ju l i (by omega)]; refine Ev.bind hr1 ?_; simp only [if_pos (show r1 < 0 by omega)]; exact Ev.now _
  ·obtain ⟨r, hr, hq⟩ := ih (i + 1) r1 (by omega) hc0 (by omega); refine ⟨r, Ev.step (fun k => bx.l0.eq_2 _ _ _ _) ?_, ?_⟩
   ·simp only [if_pos (show ((i : Int) < (l.length : Int)) by omega), if_pos (show 0 ≤ (i : Int) by omega), ju l i (by omega), bT i (by omega)]; refine Ev.bind hr1 ?_; simp only [if_neg (show ¬ r1 < 0 by omega)]; exact hr
   ·rcases hq with hq | ⟨q0, q1, q2⟩
    ·exact .inl hq
    ·refine .inr ⟨q0, by omega, fun x hx => ?_⟩; rcases (dW (show i < l.length by omega)).1 hx with hx | hx
     ·rw [hx]; exact hc2
     ·exact q2 x hx
theorem ou (l : List dZ) (hl : l.length ≤ 9223372036854775807) (hg : ∀ x ∈ l, g7 x) (a : Int) (h0 : 0 ≤ a) (h1 : a ≤ 1048576) :
  ∃ r, Ev (fun k => bx.f k l a) r ∧ (r = -1 ∨ (0 ≤ r ∧ r ≤ a ∧ l.length ≤ 1048576 ∧ ∀ x ∈ l, eG x)) := by
 simp only [bx.f, br (x := a - (l.length : Int)) (by omega) (by omega)]; by_cases h2 : a - (l.length : Int) < 0
 ·simp only [if_pos h2]; exact ⟨-1, Ev.now _, .inl rfl⟩
 ·simp only [if_neg h2]; obtain ⟨r, hr, hq⟩ := nV l (by omega) hg l.length 0 (a - (l.length : Int)) (by omega) (by omega) (by omega); refine ⟨r, hr, ?_⟩; rcases hq with hq | ⟨q0, q1, q2⟩
  ·exact .inl hq
  ·exact .inr ⟨q0, by omega, by omega, q2⟩
theorem nf (l : List dX) (j : Nat) (h : j < l.length) : cY l (j : Int) = l[j] := by
 unfold cY; simp [List.getD_eq_getElem?_getD, List.getElem?_eq_getElem h]
theorem lw (l : List dF) (j : Nat) (h : j < l.length) : d7 l (j : Int) = l[j] := by
 unfold d7; simp [List.getD_eq_getElem?_getD, List.getElem?_eq_getElem h]
theorem qD (x : dF) (a : Int) (hx : fH x) (h0 : 0 ≤ a) (h1 : a ≤ 1048576) : ∃ r, dI.f x.f0 x.f1 a = some r ∧ (r = -1 ∨ (0 ≤ r ∧ r ≤ a ∧ fE x)) := by
 unfold fH at hx
 unfold fE
 unfold dI.f
 rw [br (x := a - (x.f0.size : Int)) (by omega) (by omega)]; by_cases h20 : a - (x.f0.size : Int) < 0
 ·rw [if_pos h20]; exact ⟨_, rfl, .inl rfl⟩
 rw [if_neg h20]; rw [br (x := a - (x.f0.size : Int) - (x.f1.size : Int)) (by omega) (by omega)]; by_cases h21 : a - (x.f0.size : Int) - (x.f1.size : Int) < 0
 ·rw [if_pos h21]; exact ⟨_, rfl, .inl rfl⟩
 rw [if_neg h21]; exact ⟨_, rfl, .inr ⟨by omega, by omega, by omega⟩⟩
theorem oI (l : List dF) (hl : l.length ≤ 1048576) (hg : ∀ x ∈ l, fH x) : ∀ (d i : Nat) (a : Int), i + d = l.length → 0 ≤ a → a ≤ 1048576 →
  ∃ r, Ev (fun k => bK.l0 k l a (i : Int)) r ∧ (r = -1 ∨ (0 ≤ r ∧ r ≤ a ∧ ∀ x ∈ l.drop i, fE x)) := by
 intro d; induction d with
 | zero =>
  intro i a hi h0 h1; refine ⟨a, Ev.step (fun k => bK.l0.eq_2 _ _ _ _) ?_, .inr ⟨h0, Int.le_refl _, fun x hx => ?_⟩⟩
  ·simp only [if_neg (show ¬ ((i : Int) < (l.length : Int)) by omega)]; exact Ev.now _
  ·rw [List.drop_of_length_le (by omega)] at hx; cases hx
 | succ d ih =>
  intro i a hi h0 h1; obtain ⟨r1, hr1, hc⟩ := qD l[i] a (hg _ (List.getElem_mem _)) h0 h1; rcases hc with hc | ⟨hc0, hc1, hc2⟩
  ·refine ⟨-1, Ev.step (fun k => bK.l0.eq_2 _ _ _ _) ?_, .inl rfl⟩; simp only [if_pos (show ((i : Int) < (l.length : Int)) by omega), if_pos (show 0 ≤ (i : Int) by omega), lw l i (by omega), hr1, Option.bind_some, hc]; exact Ev.now _
  ·obtain ⟨r, hr, hq⟩ := ih (i + 1) r1 (by omega) hc0 (by omega); refine ⟨r, Ev.step (fun k => bK.l0.eq_2 _ _ _ _) ?_, ?_⟩
   ·simp only [if_pos (show ((i : Int) < (l.length : Int)) by omega), if_pos (show 0 ≤ (i : Int) by omega), lw l i (by omega), hr1, Option.bind_some, if_neg (show ¬ r1 < 0 by omega), bT i (by omega)]; exact hr
   ·rcases hq with hq | ⟨q0, q1, q2⟩
    ·exact .inl hq
    ·refine .inr ⟨q0, by omega, fun x hx => ?_⟩; rcases (dW (show i < l.length by omega)).1 hx with hx | hx
     ·rw [hx]; exact hc2
     ·exact q2 x hx
theorem oX (l : List dF) (hl : l.length ≤ 9223372036854775807) (hg : ∀ x ∈ l, fH x) (a : Int) (h0 : 0 ≤ a) (h1 : a ≤ 1048576) :
  ∃ r, Ev (fun k => bK.f k l a) r ∧ (r = -1 ∨ (0 ≤ r ∧ r ≤ a ∧ l.length ≤ 1048576 ∧ ∀ x ∈ l, fE x)) := by
 simp only [bK.f, br (x := a - (l.length : Int)) (by omega) (by omega)]; by_cases h2 : a - (l.length : Int) < 0
 ·simp only [if_pos h2]; exact ⟨-1, Ev.now _, .inl rfl⟩
 ·simp only [if_neg h2]; obtain ⟨r, hr, hq⟩ := oI l (by omega) hg l.length 0 (a - (l.length : Int)) (by omega) (by omega) (by omega); refine ⟨r, hr, ?_⟩; rcases hq with hq | ⟨q0, q1, q2⟩
  ·exact .inl hq
  ·exact .inr ⟨q0, by omega, by omega, q2⟩
theorem rv (key : ByteArray) (l : List dF) (hk : key.size ≤ 9223372036854775807) (hl : l.length ≤ 9223372036854775807) (hg : ∀ x ∈ l, fH x) (a : Int) (h0 : 0 ≤ a) (h1 : a ≤ 1048576) :
  ∃ r, Ev (fun k => eb.f k key l a) r ∧ (r = -1 ∨ (0 ≤ r ∧ r ≤ a ∧ key.size ≤ 1048576 ∧ l.length ≤ 1048576 ∧ ∀ x ∈ l, fE x)) := by
 simp only [eb.f, br (x := a - (key.size : Int)) (by omega) (by omega)]; by_cases h2 : a - (key.size : Int) < 0
 ·simp only [if_pos h2]; exact ⟨-1, Ev.now _, .inl rfl⟩
 ·simp only [if_neg h2]; obtain ⟨r, hr, hq⟩ := oX l hl hg (a - (key.size : Int)) (by omega) (by omega); rcases hq with hq | ⟨q0, q1, q2, q3⟩
  ·refine ⟨-1, Ev.bind hr ?_, .inl rfl⟩; simp only [hq, if_pos (show (-1 : Int) < 0 by omega)]; exact Ev.now _
  ·refine ⟨r, Ev.bind hr ?_, .inr ⟨q0, by omega, by omega, q2, q3⟩⟩; simp only [if_neg (show ¬ r < 0 by omega)]; exact Ev.now _
def kv (x : dX) : Prop := x.f1.f0.size ≤ 9223372036854775807 ∧ x.f1.f1.length ≤ 9223372036854775807 ∧ ∀ c ∈ x.f1.f1, fH c
theorem r9 (x : dX) (a : Int) (hx : kv x) (h0 : 0 ≤ a) (h1 : a ≤ 1048576) : ∃ r, Ev (fun k => ee.f k x.f0 x.f1.f0 x.f1.f1 a) r ∧ (r = -1 ∨ (0 ≤ r ∧ r ≤ a ∧ fN x)) := by
 obtain ⟨w0, w1, w2⟩ := hx; simp only [ee.f]; obtain ⟨r, hr, hq⟩ := rv x.f1.f0 x.f1.f1 w0 w1 w2 a h0 h1; rcases hq with hq | ⟨q0, q1, q2, q3, q4⟩
 ·exact ⟨-1, Ev.bind hr (by simp only [if_pos (show r < 0 by omega)]; exact Ev.now _), .inl rfl⟩
 ·exact ⟨r, Ev.bind hr (by simp only [if_neg (show ¬ r < 0 by omega)]; exact Ev.now _), .inr ⟨q0, q1, q2, q3, q4⟩⟩
theorem pX (l : List dX) (hl : l.length ≤ 1048576) (hg : ∀ x ∈ l, kv x) : ∀ (d i : Nat) (a : Int), i + d = l.length → 0 ≤ a → a ≤ 1048576 →
  ∃ r, Ev (fun k => bU.l0 k l a (i : Int)) r ∧ (r = -1 ∨ (0 ≤ r ∧ r ≤ a ∧ ∀ x ∈ l.drop i, fN x)) := by
 intro d; induction d with
 | zero =>
  intro i a hi h0 h1; refine ⟨a, Ev.step (fun k => bU.l0.eq_2 _ _ _ _) ?_, .inr ⟨h0, Int.le_refl _, fun x hx => ?_⟩⟩
  ·simp only [if_neg (show ¬ ((i : Int) < (l.length : Int)) by omega)]; exact Ev.now _
  ·rw [List.drop_of_length_le (by omega)] at hx; cases hx
 | succ d ih =>
  intro i a hi h0 h1; obtain ⟨r1, hr1, hc⟩ := r9 l[i] a (hg _ (List.getElem_mem _)) h0 h1; rcases hc with hc | ⟨hc0, hc1, hc2⟩
  ·refine ⟨-1, Ev.step (fun k => bU.l0.eq_2 _ _ _ _) ?_, .inl rfl⟩; simp only [if_pos (show ((i : Int) < (l.length : Int)) by omega), if_pos (show 0 ≤ (i : Int) by omega), nf l i (by omega)]; refine Ev.bind hr1 ?_; simp only [if_pos (show r1 < 0 by omega)]; exact Ev.now _
  ·obtain ⟨r, hr, hq⟩ := ih (i + 1) r1 (by omega) hc0 (by omega); refine ⟨r, Ev.step (fun k => bU.l0.eq_2 _ _ _ _) ?_, ?_⟩
   ·simp only [if_pos (show ((i : Int) < (l.length : Int)) by omega), if_pos (show 0 ≤ (i : Int) by omega), nf l i (by omega), bT i (by omega)]; refine Ev.bind hr1 ?_; simp only [if_neg (show ¬ r1 < 0 by omega)]; exact hr
   ·rcases hq with hq | ⟨q0, q1, q2⟩
    ·exact .inl hq
    ·refine .inr ⟨q0, by omega, fun x hx => ?_⟩; rcases (dW (show i < l.length by omega)).1 hx with hx | hx
     ·rw [hx]; exact hc2
     ·exact q2 x hx
theorem qa (l : List dX) (hl : l.length ≤ 9223372036854775807) (hg : ∀ x ∈ l, kv x) (a : Int) (h0 : 0 ≤ a) (h1 : a ≤ 1048576) :
  ∃ r, Ev (fun k => bU.f k l a) r ∧ (r = -1 ∨ (0 ≤ r ∧ r ≤ a ∧ l.length ≤ 1048576 ∧ ∀ x ∈ l, fN x)) := by
 simp only [bU.f, br (x := a - (l.length : Int)) (by omega) (by omega)]; by_cases h2 : a - (l.length : Int) < 0
 ·simp only [if_pos h2]; exact ⟨-1, Ev.now _, .inl rfl⟩
 ·simp only [if_neg h2]; obtain ⟨r, hr, hq⟩ := pX l (by omega) hg l.length 0 (a - (l.length : Int)) (by omega) (by omega) (by omega); refine ⟨r, hr, ?_⟩; rcases hq with hq | ⟨q0, q1, q2⟩
  ·exact .inl hq
  ·exact .inr ⟨q0, by omega, by omega, q2⟩
theorem pb (F : List d9) (R : List dX) (E : List dZ) (n : Int) (hF : F.length ≤ 9223372036854775807 ∧ ∀ x ∈ F, fz x) (hR : R.length ≤ 9223372036854775807 ∧ ∀ x ∈ R, kv x) (hE : E.length ≤ 9223372036854775807 ∧ ∀ x ∈ E, g7 x) :
  ∃ r, Ev (fun k => dC.f k F R E n 1048576) r ∧ (r = -1 ∨ (0 ≤ r ∧ oZ F R E)) := by
 simp only [dC.f]; obtain ⟨r0, h0, q0⟩ := oB F hF.1 hF.2 1048576 (by omega) (by omega); rcases q0 with q0 | ⟨a0, a1, a2, a3⟩
 ·exact ⟨-1, Ev.bind h0 (by simp only [if_pos (show r0 < 0 by omega)]; exact Ev.now _), .inl rfl⟩
 obtain ⟨r1, h1, q1⟩ := qa R hR.1 hR.2 r0 a0 (by omega); rcases q1 with q1 | ⟨b0, b1, b2, b3⟩
 ·refine ⟨-1, Ev.bind h0 ?_, .inl rfl⟩; simp only [if_neg (show ¬ r0 < 0 by omega)]; exact Ev.bind h1 (by simp only [if_pos (show r1 < 0 by omega)]; exact Ev.now _)
 obtain ⟨r2, h2, q2⟩ := ou E hE.1 hE.2 r1 b0 (by omega); rcases q2 with q2 | ⟨c0, c1, c2, c3⟩
 ·refine ⟨-1, Ev.bind h0 ?_, .inl rfl⟩; simp only [if_neg (show ¬ r0 < 0 by omega)]; refine Ev.bind h1 ?_; simp only [if_neg (show ¬ r1 < 0 by omega)]; exact Ev.bind h2 (by simp only [if_pos (show r2 < 0 by omega)]; exact Ev.now _)
 ·refine ⟨r2, Ev.bind h0 ?_, .inr ⟨c0, ⟨a2, a3⟩, ⟨b2, b3⟩, ⟨c2, c3⟩⟩⟩; simp only [if_neg (show ¬ r0 < 0 by omega)]; refine Ev.bind h1 ?_; simp only [if_neg (show ¬ r1 < 0 by omega)]; exact Ev.bind h2 (by simp only [if_neg (show ¬ r2 < 0 by omega)]; exact Ev.now _)
theorem dU {α : Type} (l m : List α) (i : Nat) (v : α) (hl : i < l.length) (hm : i < m.length) (hv : m[i] = v) (h : l.take i = m.take i) : (l.set i v).take (i + 1) = m.take (i + 1) := by
 rw [List.take_add_one, List.take_add_one, List.take_set_of_le (Nat.le_refl _), h]; congr 1
 rw [List.getElem?_set_self hl, List.getElem?_eq_getElem hm, hv]
theorem nR (l : List d9) (hn : l.length ≤ 1048576) : ∀ (d i : Nat) (acc : List S92), i + d = l.length → acc.length = l.length → acc.take i = (l.map iH).take i →
  Ev (fun k => bF.l0 k l acc (i : Int)) (l.map iH) := by
 intro d; induction d with
 | zero =>
  intro i acc hi hl ht; refine Ev.step (fun k => bF.l0.eq_2 _ _ _ _) ?_; simp only [if_neg (show ¬ ((i : Int) < (l.length : Int)) by omega)]; have : acc = l.map iH := by rw [List.take_of_length_le (by omega), List.take_of_length_le (by rw [List.length_map]; omega)] at ht; exact ht
  rw [this]; exact Ev.now _
 | succ d ih =>
  intro i acc hi hl ht; refine Ev.step (fun k => bF.l0.eq_2 _ _ _ _) ?_; simp only [if_pos (show ((i : Int) < (l.length : Int)) by omega), if_pos (show 0 ≤ (i : Int) by omega), er.f, Option.bind_some, if_pos (show ((i : Int) < (acc.length : Int)) by omega), bT i (by omega), bP, jq l i (by omega)]; exact ih (i + 1) _ (by omega) (by simp [hl]) (dU _ _ _ _ (by omega) (by rw [List.length_map]; omega) (by rw [List.getElem_map]; rfl) ht)
theorem nM (l : List d9) (hn : l.length ≤ 1048576) : Ev (fun k => bF.f k l) (l.map iH) := by
 simp only [bF.f, if_pos (show 0 ≤ (l.length : Int) by omega), bP]; refine Ev.congr (f := fun k => bF.l0 k l (List.replicate l.length z92) 0) (fun k => if_pos (by omega)) ?_; exact nR l hn l.length 0 _ (by omega) (by simp) rfl
theorem oK (l : List Int) (hn : l.length ≤ 1048576) : Ev (fun k => b8.f k l) l := by
 have main : ∀ (d i : Nat) (acc : List Int), i + d = l.length → acc.length = l.length → acc.take i = l.take i → Ev (fun k => b8.l0 k l acc (i : Int)) l := by
  intro d; induction d with
  | zero =>
   intro i acc hi hl ht; refine Ev.step (fun k => b8.l0.eq_2 _ _ _ _) ?_; simp only [if_neg (show ¬ ((i : Int) < (l.length : Int)) by omega)]; have : acc = l := by rw [List.take_of_length_le (by omega), List.take_of_length_le (by omega)] at ht; exact ht
   rw [this]; exact Ev.now _
  | succ d ih =>
   intro i acc hi hl ht; refine Ev.step (fun k => b8.l0.eq_2 _ _ _ _) ?_; simp only [if_pos (show ((i : Int) < (l.length : Int)) by omega), if_pos (show 0 ≤ (i : Int) by omega), if_pos (show ((i : Int) < (acc.length : Int)) by omega), bT i (by omega), bP, iF l i (by omega)]; exact ih (i + 1) _ (by omega) (by simp [hl]) (dU _ _ _ _ (by omega) (by omega) rfl ht)
 simp only [b8.f, if_pos (show 0 ≤ (l.length : Int) by omega), bP]; refine Ev.congr (f := fun k => b8.l0 k l (List.replicate l.length 0) 0) (fun k => if_pos (by omega)) ?_; exact main l.length 0 _ (by omega) (by simp) rfl
theorem qt (x : dY) (hx : eQ x) : Ev (fun k => ek.f k x.f0 x.f1) ((jb x).f0, (jb x).f1) := by
 simp only [ek.f]; exact Ev.bind (oK x.f1 hx) (Ev.now _)
theorem pn (l : List dY) (hn : l.length ≤ 1048576) (hs : ∀ x ∈ l, eQ x) : ∀ (d i : Nat) (acc : List S50), i + d = l.length → acc.length = l.length → acc.take i = (l.map jb).take i →
  Ev (fun k => bR.l0 k l acc (i : Int)) (l.map jb) := by
 intro d; induction d with
 | zero =>
  intro i acc hi hl ht; refine Ev.step (fun k => bR.l0.eq_2 _ _ _ _) ?_; simp only [if_neg (show ¬ ((i : Int) < (l.length : Int)) by omega)]; have : acc = l.map jb := by rw [List.take_of_length_le (by omega), List.take_of_length_le (by rw [List.length_map]; omega)] at ht; exact ht
  rw [this]; exact Ev.now _
 | succ d ih =>
  intro i acc hi hl ht; refine Ev.step (fun k => bR.l0.eq_2 _ _ _ _) ?_; simp only [if_pos (show ((i : Int) < (l.length : Int)) by omega), if_pos (show 0 ≤ (i : Int) by omega), bT i (by omega), bP, kK l i (by omega)]; refine Ev.bind (qt l[i] (hs _ (List.getElem_mem _))) ?_; simp only [if_pos (show ((i : Int) < (acc.length : Int)) by omega)]; exact ih (i + 1) _ (by omega) (by simp [hl]) (dU _ _ _ _ (by omega) (by rw [List.length_map]; omega) (by simp [jb]) ht)
theorem o6 (l : List dY) (hn : l.length ≤ 1048576) (hs : ∀ x ∈ l, eQ x) : Ev (fun k => bR.f k l) (l.map jb) := by
 simp only [bR.f, if_pos (show 0 ≤ (l.length : Int) by omega), bP]; refine Ev.congr (f := fun k => bR.l0 k l (List.replicate l.length z50) 0) (fun k => if_pos (by omega)) ?_; exact pn l hn hs l.length 0 _ (by omega) (by simp) rfl
theorem pk (x : dZ) (hx : eG x) : Ev (fun k => dS.f k x.f0 x.f1 x.f2) ((fF x).f0, (fF x).f1, (fF x).f2) := by
 simp only [dS.f]; exact Ev.bind (o6 x.f2 hx.1 hx.2) (Ev.now _)
theorem n3 (l : List dZ) (hn : l.length ≤ 1048576) (hs : ∀ x ∈ l, eG x) : ∀ (d i : Nat) (acc : List S76), i + d = l.length → acc.length = l.length → acc.take i = (l.map fF).take i →
  Ev (fun k => bH.l0 k l acc (i : Int)) (l.map fF) := by
 intro d; induction d with
 | zero =>
  intro i acc hi hl ht; refine Ev.step (fun k => bH.l0.eq_2 _ _ _ _) ?_; simp only [if_neg (show ¬ ((i : Int) < (l.length : Int)) by omega)]; have : acc = l.map fF := by rw [List.take_of_length_le (by omega), List.take_of_length_le (by rw [List.length_map]; omega)] at ht; exact ht
  rw [this]; exact Ev.now _
 | succ d ih =>
  intro i acc hi hl ht; refine Ev.step (fun k => bH.l0.eq_2 _ _ _ _) ?_; simp only [if_pos (show ((i : Int) < (l.length : Int)) by omega), if_pos (show 0 ≤ (i : Int) by omega), bT i (by omega), bP, ju l i (by omega)]; refine Ev.bind (pk l[i] (hs _ (List.getElem_mem _))) ?_; simp only [if_pos (show ((i : Int) < (acc.length : Int)) by omega)]; exact ih (i + 1) _ (by omega) (by simp [hl]) (dU _ _ _ _ (by omega) (by rw [List.length_map]; omega) (by simp [fF]) ht)
theorem nX (l : List dZ) (hn : l.length ≤ 1048576) (hs : ∀ x ∈ l, eG x) : Ev (fun k => bH.f k l) (l.map fF) := by
 simp only [bH.f, if_pos (show 0 ≤ (l.length : Int) by omega), bP]; refine Ev.congr (f := fun k => bH.l0 k l (List.replicate l.length z76) 0) (fun k => if_pos (by omega)) ?_; exact n3 l hn hs l.length 0 _ (by omega) (by simp) rfl
theorem oH (l : List dF) (hn : l.length ≤ 1048576) : ∀ (d i : Nat) (acc : List S86), i + d = l.length → acc.length = l.length → acc.take i = (l.map lJ).take i →
  Ev (fun k => bS.l0 k l acc (i : Int)) (l.map lJ) := by
 intro d; induction d with
 | zero =>
  intro i acc hi hl ht; refine Ev.step (fun k => bS.l0.eq_2 _ _ _ _) ?_; simp only [if_neg (show ¬ ((i : Int) < (l.length : Int)) by omega)]; have : acc = l.map lJ := by rw [List.take_of_length_le (by omega), List.take_of_length_le (by rw [List.length_map]; omega)] at ht; exact ht
  rw [this]; exact Ev.now _
 | succ d ih =>
  intro i acc hi hl ht; refine Ev.step (fun k => bS.l0.eq_2 _ _ _ _) ?_; simp only [if_pos (show ((i : Int) < (l.length : Int)) by omega), if_pos (show 0 ≤ (i : Int) by omega), eR.f, Option.bind_some, if_pos (show ((i : Int) < (acc.length : Int)) by omega), bT i (by omega), bP, lw l i (by omega)]; exact ih (i + 1) _ (by omega) (by simp [hl]) (dU _ _ _ _ (by omega) (by rw [List.length_map]; omega) (by rw [List.getElem_map]; rfl) ht)
theorem oE (l : List dF) (hn : l.length ≤ 1048576) : Ev (fun k => bS.f k l) (l.map lJ) := by
 simp only [bS.f, if_pos (show 0 ≤ (l.length : Int) by omega), bP]; refine Ev.congr (f := fun k => bS.l0 k l (List.replicate l.length z86) 0) (fun k => if_pos (by omega)) ?_; exact oH l hn l.length 0 _ (by omega) (by simp) rfl
theorem rf (key : ByteArray) (l : List dF) (hn : l.length ≤ 1048576) : Ev (fun k => eI.f k key l) (key, l.map lJ) := by
 simp only [eI.f]; exact Ev.bind (oE l hn) (Ev.now _)
theorem rJ (x : dX) (hx : fN x) : Ev (fun k => eH.f k x.f0 x.f1.f0 x.f1.f1) ((kT x).f0, (kT x).f1.f0, (kT x).f1.f1) := by
 simp only [eH.f]; exact Ev.bind (rf x.f1.f0 x.f1.f1 hx.2.1) (Ev.now _)
theorem qf (l : List dX) (hn : l.length ≤ 1048576) (hs : ∀ x ∈ l, fN x) : ∀ (d i : Nat) (acc : List S46), i + d = l.length → acc.length = l.length → acc.take i = (l.map kT).take i →
  Ev (fun k => b9.l0 k l acc (i : Int)) (l.map kT) := by
 intro d; induction d with
 | zero =>
  intro i acc hi hl ht; refine Ev.step (fun k => b9.l0.eq_2 _ _ _ _) ?_; simp only [if_neg (show ¬ ((i : Int) < (l.length : Int)) by omega)]; have : acc = l.map kT := by rw [List.take_of_length_le (by omega), List.take_of_length_le (by rw [List.length_map]; omega)] at ht; exact ht
  rw [this]; exact Ev.now _
 | succ d ih =>
  intro i acc hi hl ht; refine Ev.step (fun k => b9.l0.eq_2 _ _ _ _) ?_; simp only [if_pos (show ((i : Int) < (l.length : Int)) by omega), if_pos (show 0 ≤ (i : Int) by omega), bT i (by omega), bP, nf l i (by omega)]; refine Ev.bind (rJ l[i] (hs _ (List.getElem_mem _))) ?_; simp only [if_pos (show ((i : Int) < (acc.length : Int)) by omega)]; exact ih (i + 1) _ (by omega) (by simp [hl]) (dU _ _ _ _ (by omega) (by rw [List.length_map]; omega) (by simp [kT]) ht)
theorem qO (l : List dX) (hn : l.length ≤ 1048576) (hs : ∀ x ∈ l, fN x) : Ev (fun k => b9.f k l) (l.map kT) := by
 simp only [b9.f, if_pos (show 0 ≤ (l.length : Int) by omega), bP]; refine Ev.congr (f := fun k => b9.l0 k l (List.replicate l.length z46) 0) (fun k => if_pos (by omega)) ?_; exact qf l hn hs l.length 0 _ (by omega) (by simp) rfl
theorem pf (F : List d9) (R : List dX) (E : List dZ) (n : Int) (h : oZ F R E) : Ev (fun k => di.f k F R E n) (F.map iH, R.map kT, E.map fF, n) := by
 simp only [di.f]; refine Ev.bind (nM F h.1.1) ?_; refine Ev.bind (qO R h.2.1.1 h.2.1.2) ?_; refine Ev.bind (nX E h.2.2.1 h.2.2.2) ?_; exact Ev.now _
theorem bj {g : Nat → Option Bool} {p : Prop} {ip : Decidable p} (h : ¬ p) (k : Ev g false) : Ev g (@decide p ip) := by
 rw [decide_eq_false h]; exact k
theorem wpred (j : Nat) (h : j < 9223372036854775807) : wrap64 (((j + 1 : Nat) : Int) - 1) = (j : Int) := by rw [br (by omega) (by omega)]; omega
theorem cO {g : Nat → Option Bool} {p q : Prop} {ip : Decidable p} {iq : Decidable q} (h : p ↔ q) (k : Ev g (@decide p ip)) : Ev g (@decide q iq) := by
 have e : @decide p ip = @decide q iq := decide_eq_decide.2 h; rw [← e]; exact k
theorem i6 {key : ByteArray} {l : List S86} {j : Nat} (hj : l.length ≤ j) : gg key l j ↔ eU (am key) = true ∧ l.length ≤ 4 := ⟨fun h => h.2, fun h => ⟨fun i hi hji => by omega, h⟩⟩
theorem ig {key : ByteArray} {l : List S86} {j : Nat} (hj : j < l.length) : gg key l j ↔ (eU (am l[j].f0) = true ∧ eu l[j].f1 60 = true ∧ ∀ h0 : 0 < j, py (l[j - 1]'(by omega)).f0 l[j].f0) ∧ gg key l (j + 1) := by
 constructor
 ·rintro ⟨h, h2⟩; exact ⟨h j hj (Nat.le_refl _), fun i hi hji => h i hi (by omega), h2⟩
 ·rintro ⟨h, h1, h2⟩; refine ⟨fun i hi hji => ?_, h2⟩; rcases Nat.lt_or_ge j i with hlt | hge
  ·exact h1 i hi hlt
  ·obtain rfl : i = j := by omega
   exact h
theorem iR {l : List Int} {j : Nat} (hj : l.length ≤ j) : dD l j ↔ 1 ≤ l.length ∧ l.length ≤ 8 := ⟨fun h => h.2, fun h => ⟨fun i hi hji => by omega, h⟩⟩
theorem iv {l : List Int} {j : Nat} (hj : j < l.length) : dD l j ↔ (lN l[j] ∨ (0 < j ∧ lV l[j])) ∧ dD l (j + 1) := by
 constructor
 ·rintro ⟨h, h2⟩; exact ⟨h j hj (Nat.le_refl _), fun i hi hji => h i hi (by omega), h2⟩
 ·rintro ⟨h, h1, h2⟩; refine ⟨fun i hi hji => ?_, h2⟩; rcases Nat.lt_or_ge j i with hlt | hge
  ·exact h1 i hi hlt
  ·obtain rfl : i = j := by omega
   exact h
theorem dr (a b c : Int) : aU.f a b c = some (decide (b ≤ a ∧ a ≤ c)) := by
 unfold aU.f
 by_cases h : a ≥ b
 ·rw [if_pos h]; congr 1; exact decide_eq_decide.2 ⟨fun h2 => ⟨h, h2⟩, fun h2 => h2.2⟩
 ·rw [if_neg h]; congr 1; symm; exact decide_eq_false (fun h2 => h h2.1)
open Classical in
theorem ls (s : ByteArray) (hn : s.size < 4611686018427387904) : ∀ (d i : Nat), i + d = s.size → Ev (fun k => au.l0 k s (s.size : Int) (i : Int)) (decide (dD (am s) i)) := by
 have hb := bW s; intro d; induction d with
 | zero =>
  intro i hi; refine Ev.step (fun k => au.l0.eq_2 _ _ _ _) ?_; simp only [if_neg (show ¬ ((i : Int) < (s.size : Int)) by omega), dr, Option.bind_some]; refine cN (iR (by omega)).symm ?_; refine gj fun _ => ?_
  congr 1; exact decide_eq_decide.2 (by omega)
 | succ d ih =>
  intro i hi; have hs := iv (l := am s) (j := i) (by omega); refine Ev.step (fun k => au.l0.eq_2 _ _ _ _) ?_; simp only [if_pos (show ((i : Int) < (s.size : Int)) by omega), if_pos (show 0 ≤ (i : Int) by omega), bT i (by omega), gK s i (by omega), ir, ie, Option.bind_some, decide_eq_true_eq]; by_cases h1 : lN (am s)[i]
  ·simp only [if_pos h1]; exact cN (hs.trans ⟨fun h => h.2, fun h => ⟨.inl h1, h⟩⟩).symm (ih (i + 1) (by omega))
  ·simp only [if_neg h1]; by_cases h0 : (i : Int) = 0
   ·simp only [if_pos h0]; have : decide (dD (am s) i) = false := decide_eq_false (fun h => by rcases (hs.1 h).1 with h2 | h2; exact h1 h2; omega); rw [this]; exact Ev.now _
   ·simp only [if_neg h0]; by_cases h2 : lV (am s)[i]
    ·simp only [if_pos h2]; exact cN (hs.trans ⟨fun h => h.2, fun h => ⟨.inr ⟨by omega, h2⟩, h⟩⟩).symm (ih (i + 1) (by omega))
    ·simp only [if_neg h2]; have : decide (dD (am s) i) = false := decide_eq_false (fun h => by rcases (hs.1 h).1 with h3 | h3; exact h1 h3; exact h2 h3.2); rw [this]; exact Ev.now _
theorem e6 (s : ByteArray) (hn : s.size < 4611686018427387904) : Ev (fun k => au.f k s) (eU (am s)) := ls s hn s.size 0 (by omega)
theorem pw (s : ByteArray) (j : Nat) (h : j < (am s).length) : wrap64 (bt s (j : Int)) = (am s)[j] := by
 rw [gK s j h]; have := fg s _ (List.getElem_mem h); exact br (by omega) (by omega)
open Classical in
theorem mu (s : ByteArray) (m : Int) (hs : s.size < 4611686018427387904) : ∀ (d i : Nat), i + d = s.size → Ev (fun k => cJ.l0 k s m (s.size : Int) (i : Int)) (decide ((∀ c ∈ (am s).drop i, sa c) ∧ (s.size : Int) ≤ m)) := by
 have hlen := bW s; intro d; induction d with
 | zero =>
  intro i hi; refine Ev.step (fun k => cJ.l0.eq_2 _ _ _ _ _) ?_; simp only [if_neg (show ¬ ((i : Int) < (s.size : Int)) by omega)]; refine cN ?_ (Ev.now _); rw [List.drop_eq_nil_of_le (by omega)]; exact ⟨fun h => ⟨fun c hc => by simp at hc, h⟩, fun h => h.2⟩
 | succ d ih =>
  intro i hi; refine Ev.step (fun k => cJ.l0.eq_2 _ _ _ _ _) ?_; simp only [if_pos (show ((i : Int) < (s.size : Int)) by omega), if_pos (show 0 ≤ (i : Int) by omega), pw s i (by omega), dr, Option.bind_some, decide_eq_true_eq, bT i (by omega)]; have e := List.drop_eq_getElem_cons (l := am s) (i := i) (by omega); by_cases hw : 32 ≤ (am s)[i] ∧ (am s)[i] ≤ 126
  ·simp only [if_pos hw]; refine cN ?_ (ih (i + 1) (by omega)); rw [e]; constructor
   ·rintro ⟨h1, h2⟩; exact ⟨fun c hc => by rcases List.mem_cons.1 hc with h | h; exact h ▸ hw; exact h1 c h, h2⟩
   ·rintro ⟨h1, h2⟩; exact ⟨fun c hc => h1 c (List.mem_cons_of_mem _ hc), h2⟩
  ·simp only [if_neg hw]; refine cA (fun h => hw (h.1 _ ?_)) (Ev.now _); rw [e]; exact List.mem_cons_self ..
theorem l9 (s : ByteArray) (m : Int) (hs : s.size < 4611686018427387904) : Ev (fun k => cJ.f k s m) (eu s m) := by
 simp only [cJ.f, eu]; exact mu s m hs s.size 0 (by omega)
theorem kM (s : ByteArray) (hs : s.size < 4611686018427387904) : Ev (fun k => b4.f k s) (eu s 60) := by
 simp only [b4.f]; exact Ev.bind (l9 s 60 hs) (Ev.now _)
open Classical in
theorem iw (key : ByteArray) (l : List S86) (hk : key.size ≤ 1048576) (hn : l.length ≤ 1048576) (hs : ∀ x ∈ l, x.f0.size ≤ 1048576 ∧ x.f1.size ≤ 1048576) : ∀ (d i : Nat), i + d = l.length →
  Ev (fun k => bm.l0 k l (l.length : Int) (i : Int) key l) (decide (gg key l i)) := by
 intro d; induction d with
 | zero =>
  intro i hi; refine Ev.step (fun k => bm.l0.eq_2 _ _ _ _ _ _) ?_; simp only [if_neg (show ¬ ((i : Int) < (l.length : Int)) by omega)]; refine cN (i6 (by omega)).symm ?_; refine Ev.bind (e6 key (by omega)) ?_; cases hnm : eU (am key) with
  | false => simp only [if_neg (show ¬ (false = true) by decide)]; exact cA (fun h => by cases h.1) (Ev.now _)
  | true =>
   simp only [if_true]; exact cN ⟨fun h => ⟨(by first | trivial | rfl), by omega⟩, fun h => by have := h.2; omega⟩ (Ev.now _)
 | succ d ih =>
  intro i hi; have hst := ig (key := key) (l := l) (j := i) (by omega); have hsz := hs l[i] (List.getElem_mem _); have hnext := ih (i + 1) (by omega); refine Ev.step (fun k => bm.l0.eq_2 _ _ _ _ _ _) ?_; simp only [if_pos (show ((i : Int) < (l.length : Int)) by omega), if_pos (show 0 ≤ (i : Int) by omega), fi l i (by omega), bT i (by omega)]; refine Ev.bind (e6 l[i].f0 (by omega)) ?_; cases hnm : eU (am l[i].f0) with
  | false => simp only [if_neg (show ¬ (false = true) by decide)]; exact cA (fun h => by have := (hst.1 h).1.1; rw [hnm] at this; cases this) (Ev.now _)
  | true =>
   simp only [if_true]; refine Ev.bind (kM l[i].f1 (by omega)) ?_; cases htx : eu l[i].f1 60 with
   | false => simp only [if_neg (show ¬ (false = true) by decide)]; exact cA (fun h => by have := (hst.1 h).1.2.1; rw [htx] at this; cases this) (Ev.now _)
   | true =>
    simp only [if_true]; by_cases h0 : (i : Int) > 0
    ·have he : wrap64 ((i : Int) - 1) = ((i - 1 : Nat) : Int) := by rw [br (by omega) (by omega)]; omega
     simp only [if_pos h0, he, if_pos (show 0 ≤ ((i - 1 : Nat) : Int) by omega), if_pos (show ((i - 1 : Nat) : Int) < (l.length : Int) by omega), fi l (i - 1) (by omega)]; by_cases hl : py (l[i - 1]'(by omega)).f0 l[i].f0
     ·have hl2 : Op.bytesLess (l[i - 1]'(by omega)).f0.toList l[i].f0.toList = true := hl; simp only [hl2, if_true]; exact cN (hst.trans ⟨fun h => h.2, fun h => ⟨⟨hnm, htx, fun _ => hl⟩, h⟩⟩).symm hnext
     ·have hl2 : Op.bytesLess (l[i - 1]'(by omega)).f0.toList l[i].f0.toList = false := Bool.eq_false_iff.2 hl; simp only [hl2, if_neg (show ¬ (false = true) by decide)]; exact cA (fun h => hl ((hst.1 h).1.2.2 (by omega))) (Ev.now _)
    ·simp only [if_neg h0]; exact cN (hst.trans ⟨fun h => h.2, fun h => ⟨⟨hnm, htx, fun h1 => by omega⟩, h⟩⟩).symm hnext
theorem iI (key : ByteArray) (l : List S86) (hk : key.size ≤ 1048576) (hn : l.length ≤ 1048576) (hs : ∀ x ∈ l, x.f0.size ≤ 1048576 ∧ x.f1.size ≤ 1048576) : Ev (fun k => bm.f k key l) (j6 key l) := iw key l hk hn hs l.length 0 (by omega)
def pm (F : List S92) (l : List S86) : Prop := ∀ c ∈ l, j3 (ez F c.f0) c.f1
theorem eC {g : Nat → Option Bool} {p : Prop} {ip : Decidable p} (h : p) (k : Ev g true) : Ev g (@decide p ip) := by
 rw [decide_eq_true h]; exact k
theorem eP {x : ByteArray} {l : List ByteArray} : gn (x :: l) ↔ eU (am x) = true ∧ gn l := by
 unfold gn
 constructor
 ·intro h; exact ⟨h x (by simp), fun y hy => h y (List.mem_cons_of_mem _ hy)⟩
 ·rintro ⟨h1, h2⟩ y hy; rcases List.mem_cons.1 hy with rfl | hy
  ·exact h1
  ·exact h2 y hy
open Classical in
theorem lp (L : List ByteArray) (hL : L.length ≤ 1048577) (hx : ∀ x ∈ L, x.size ≤ 1048576) : ∀ (d i : Nat), i + d = L.length → Ev (fun k => cd.l0 k L L (L.length : Int) (i : Int)) (decide (gn (L.drop i) ∧ L.length ≤ 4)) := by
 intro d; induction d with
 | zero =>
  intro i hi; refine Ev.step (fun k => cd.l0.eq_2 _ _ _ _ _) ?_; simp only [if_neg (show ¬ ((i : Int) < (L.length : Int)) by omega)]; rw [List.drop_eq_nil_of_le (by omega)]; refine cO ?_ (Ev.now _); exact ⟨fun h => ⟨fun x hx => by simp at hx, by omega⟩, fun h => by have := h.2; omega⟩
 | succ d ih =>
  intro i hi; have hil : i < L.length := by omega
  have hxi := hx L[i] (List.getElem_mem _); refine Ev.step (fun k => cd.l0.eq_2 _ _ _ _ _) ?_; simp only [if_pos (show ((i : Int) < (L.length : Int)) by omega), if_pos (show 0 ≤ (i : Int) by omega), iY _ L i hil, bT i (by omega)]; refine Ev.bind (e6 L[i] (by omega)) ?_; rw [cQ L i hil]; cases hnm : eU (am L[i]) with
  | false => simp only [if_neg (show ¬ (false = true) by decide)]; exact bj (fun h => by have := (eP.1 h.1).1; rw [hnm] at this; cases this) (Ev.now _)
  | true =>
   simp only [if_true]; exact cO ⟨fun h => ⟨eP.2 ⟨hnm, h.1⟩, h.2⟩, fun h => ⟨(eP.1 h.1).2, h.2⟩⟩ (ih (i + 1) (by omega))
theorem nx (s : ByteArray) : mkT s.data.toList = s := by cases s; rfl
theorem ia (c : UInt8) (acc l : List UInt8) : ey c 0 acc l = [acc ++ l] := by cases l <;> simp [ey]
theorem iS (c : UInt8) : ∀ (x : List UInt8) (n : Nat) (acc r : List UInt8), c ∉ x → ey c n acc (x ++ r) = ey c n (acc ++ x) r
 | [], n, acc, r, _ => by simp
 | a :: x, 0, acc, r, _ => by rw [ia, ia]; simp
 | a :: x, n + 1, acc, r, h => by
  have h1 : a ≠ c := fun e => h (by simp [e])
  rw [List.cons_append, ey, if_neg h1, iS c x (n + 1) _ r (fun e => h (List.mem_cons_of_mem _ e))]; simp
theorem iZ (c : UInt8) (r : List UInt8) : ∀ (x : List UInt8), c ∉ x → Lib.indexByte (x ++ c :: r) c = (x.length : Int)
 | [], _ => by simp [Lib.indexByte]
 | a :: x, h => by
  have ha : a ≠ c := fun e => h (by simp [e])
  have := iZ c r x (fun e => h (List.mem_cons_of_mem _ e)); simp [Lib.indexByte, this, ha]
theorem io (c : UInt8) : ∀ (l : List UInt8), c ∉ l → Lib.indexByte l c = -1
 | [], _ => rfl
 | x :: l, h => by
  have hx : x ≠ c := fun e => h (by simp [e])
  have := io c l (fun e => h (List.mem_cons_of_mem _ e)); simp [Lib.indexByte, this, hx]
theorem mz (c : UInt8) : ∀ (k : Nat) (l : List UInt8), Lib.splitK [c] 0 k l = ey c k [] l
 | 0, l => by rw [ia]; rfl
 | k + 1, l => by
  unfold Lib.splitK
  rw [Lib.index_one]; by_cases h : c ∈ l
  ·obtain ⟨x, r, rfl, hx⟩ := List.eq_append_cons_of_mem h; rw [iZ c r x hx, if_neg (by simp), mz c k, iS c x (k + 1) [] _ hx, ey, if_pos rfl]; simp
  ·rw [io c l h, if_pos (by decide)]; have := iS c l (k + 1) [] [] h; rw [List.append_nil, List.nil_append] at this; rw [this]; simp [ey]
theorem rO (c : UInt8) (s : ByteArray) (hs : s.size < 4294967281) : strings_Split.f s ⟨#[c]⟩ = some (ef c s) := by
 unfold strings_Split.f
 rw [if_pos ⟨hs, Nat.le_refl _⟩]; have e : (⟨#[c]⟩ : ByteArray).data.toList = [c] := rfl; have h1 := Lib.splitB_data ⟨#[c]⟩ 0 (Lib.countB s ⟨#[c]⟩) s; rw [e, mz] at h1; have h2 : Lib.countB s ⟨#[c]⟩ = s.data.toList.count c := by
  show Lib.count s.data.toList [c] = _
  exact Lib.count_one c _
 rw [h2] at h1 ⊢; unfold ef
 rw [← h1, List.map_map]; congr 1
 conv => lhs; rw [← List.map_id (Lib.splitB _ _ _ _)]
 exact List.map_congr_left (fun x _ => (nx x).symm)
theorem gV (c : UInt8) : ∀ (l : List UInt8) (n : Nat) (acc : List UInt8), (ey c n acc l).length ≤ l.length + 1 ∧ (ey c n acc l).length ≤ n + 1 ∧ 1 ≤ (ey c n acc l).length
 | [], n, acc => by simp [ey]
 | x :: xs, 0, acc => by simp [ey]
 | x :: xs, n + 1, acc => by
  have h1 := gV c xs n []; have h2 := gV c xs (n + 1) (acc ++ [x]); unfold ey
  split
  ·simp only [List.length_cons]; omega
  ·simp only [List.length_cons]; omega
theorem fC (s : ByteArray) : s.data.toList.length = s.size := rfl
theorem il (c : UInt8) (s : ByteArray) : (ef c s).length ≤ s.size + 1 ∧ 1 ≤ (ef c s).length := by
 unfold ef
 have := gV c s.data.toList (s.data.toList.count c) []; rw [List.length_map]; rw [fC] at this; omega
theorem jE (c : UInt8) : ∀ (l : List UInt8) (n : Nat) (acc : List UInt8), ∀ p ∈ ey c n acc l, p.length ≤ acc.length + l.length
 | [], n, acc => by simp [ey]
 | x :: xs, 0, acc => by simp [ey]
 | x :: xs, n + 1, acc => by
  intro p hp; unfold ey at hp
  split at hp
  ·rcases List.mem_cons.1 hp with rfl | hp
   ·omega
   ·have := jE c xs n [] p hp; simp only [List.length_nil, List.length_cons] at this ⊢; omega
  ·have := jE c xs (n + 1) (acc ++ [x]) p hp; simp only [List.length_append, List.length_cons, List.length_nil] at this ⊢; omega
theorem rQ (l : List UInt8) : (mkT l).size = l.length := by simp [mkT, ByteArray.size]
theorem jT {c : UInt8} {s p : ByteArray} (h : p ∈ ef c s) : p.size ≤ s.size := by
 obtain ⟨x, hx, rfl⟩ := List.mem_map.1 h; have := jE c _ _ _ x hx; rw [fC] at this; rw [rQ]; simpa using this
open Classical in
theorem kQ (s : ByteArray) (hs : s.size ≤ 1048576) : Ev (fun k => cd.f k s) (decide (lh s)) := by
 have hlen := il 44 s; simp only [cd.f, rO 44 s (show s.size < 4294967281 by omega), Option.bind_some]; have h := lp (ef 44 s) (by omega) (fun x hx => by have := jT hx; omega) (ef 44 s).length 0 (by omega); rw [List.drop_zero] at h; exact cO Iff.rfl h
theorem qA (s : ByteArray) (hs : s.size ≤ 140737488355328) : bZ.f s = some (iB s) := by
 unfold bZ.f
 rw [if_pos hs]; rfl
open Classical in
theorem l4 (F : List S92) (hF : F.length ≤ 1048576) (l : List S86) (hn : l.length ≤ 1048576) (hs : ∀ x ∈ l, x.f0.size ≤ 1048576 ∧ x.f1.size ≤ 1048576) : ∀ (d i : Nat), i + d = l.length →
  Ev (fun k => aX.l0 k F l (l.length : Int) (i : Int)) (decide (pm F (l.drop i))) := by
 intro d; induction d with
 | zero =>
  intro i hi; refine Ev.step (fun k => aX.l0.eq_2 _ _ _ _ _) ?_; simp only [if_neg (show ¬ ((i : Int) < (l.length : Int)) by omega)]; rw [List.drop_eq_nil_of_le (by omega)]; exact eC (fun c hc => by simp at hc) (Ev.now _)
 | succ d ih =>
  intro i hi; have hil : i < l.length := by omega
  have hsz := hs l[i] (List.getElem_mem _); have hnx := ih (i + 1) (by omega); have yes : j3 (ez F l[i].f0) l[i].f1 → Ev (fun k => aX.l0 k F l (l.length : Int) ((i + 1 : Nat) : Int)) (decide (pm F (l[i] :: l.drop (i + 1)))) := by
   intro h; refine cO ⟨fun h2 c hc => ?_, fun h2 c hc => h2 c (List.mem_cons_of_mem _ hc)⟩ hnx; rcases List.mem_cons.1 hc with rfl | hc
   ·exact h
   ·exact h2 c hc
  have no : ¬ j3 (ez F l[i].f0) l[i].f1 → Ev (fun _ : Nat => some false) (decide (pm F (l[i] :: l.drop (i + 1)))) := fun h => bj (fun h2 => h (h2 _ (List.mem_cons_self ..))) (Ev.now _)
  refine Ev.step (fun k => aX.l0.eq_2 _ _ _ _ _) ?_; rw [cQ l i hil]; simp only [if_pos (show ((i : Int) < (l.length : Int)) by omega), if_pos (show 0 ≤ (i : Int) by omega), fi l i hil, bT i (by omega)]; refine Ev.bind (gC l[i].f0 F (by omega)) ?_; have hkd : (em l[i].f0 F).2.1 = ez F l[i].f0 := rfl; rw [hkd]; by_cases h1 : ez F l[i].f0 = 1
  ·simp only [if_pos h1]; exact yes (Or.inl h1)
  ·simp only [if_neg h1]; by_cases h2 : ez F l[i].f0 = 2
   ·simp only [if_pos h2, qA l[i].f1 (by omega), Option.bind_some]; cases hnum : (iB l[i].f1).2 with
    | true => simp only [if_true]; exact yes (Or.inr (Or.inl ⟨h2, hnum⟩))
    | false =>
     simp only [if_neg (show ¬ (false = true) by decide)]; refine no (fun h => ?_); rcases h with h | ⟨_, h⟩ | ⟨h, _⟩
     ·exact h1 h
     ·rw [hnum] at h; cases h
     ·omega
   ·simp only [if_neg h2]; by_cases h3 : ez F l[i].f0 = 3
    ·simp only [if_pos h3]; refine Ev.bind (kQ l[i].f1 hsz.2) ?_; by_cases ht : lh l[i].f1
     ·rw [decide_eq_true ht]; simp only [if_true]; exact yes (Or.inr (Or.inr ⟨h3, ht⟩))
     ·rw [decide_eq_false ht]; simp only [if_neg (show ¬ (false = true) by decide)]; refine no (fun h => ?_); rcases h with h | ⟨h, _⟩ | ⟨_, h⟩
      ·exact h1 h
      ·exact h2 h
      ·exact ht h
    ·simp only [if_neg h3]; refine no (fun h => ?_); rcases h with h | ⟨h, _⟩ | ⟨h, _⟩
     ·exact h1 h
     ·exact h2 h
     ·exact h3 h
theorem gX {l : List S92} {j : Nat} (hj : l.length ≤ j) : dt l j ↔ 1 ≤ l.length ∧ l.length ≤ 4 := ⟨fun h => h.2, fun h => ⟨fun i hi hji => by omega, h⟩⟩
theorem gx {l : List S92} {j : Nat} (hj : j < l.length) : dt l j ↔ (dD (am l[j].f0) 0 ∧ f8 l[j] ∧ ∀ m (hm : m < j), l[m].f0 ≠ l[j].f0) ∧ dt l (j + 1) := by
 constructor
 ·rintro ⟨h, h2⟩; exact ⟨h j hj (Nat.le_refl _), fun i hi hji => h i hi (by omega), h2⟩
 ·rintro ⟨h, h1, h2⟩; refine ⟨fun i hi hji => ?_, h2⟩; rcases Nat.lt_or_ge j i with hlt | hge
  ·exact h1 i hi hlt
  ·obtain rfl : i = j := by omega
   exact h
open Classical in
theorem jh (l : List S92) (hn : l.length ≤ 1048577) (hs : ∀ x ∈ l, x.f0.size ≤ 1048576) : ∀ (d i : Nat), i + d = l.length →
  Ev (fun k => aD.l0 k l ((l.take i).map (fun x => x.f0)) l (l.length : Int) (i : Int)) (decide (dt l i)) := by
 intro d; induction d with
 | zero =>
  intro i hi; refine Ev.step (fun k => aD.l0.eq_2 _ _ _ _ _ _) ?_; simp only [if_neg (show ¬ ((i : Int) < (l.length : Int)) by omega), dr, Option.bind_some]; refine cN (gX (by omega)).symm ?_; refine gj fun _ => ?_
  congr 1; exact decide_eq_decide.2 (by omega)
 | succ d ih =>
  intro i hi; have hst := gx (l := l) (j := i) (by omega); have hsz := hs l[i] (List.getElem_mem _); have hlen : ((l.take i).map (fun x => x.f0)).length = i := by rw [List.length_map, List.length_take]; omega
  have hmem : l[i].f0 ∈ (l.take i).map (fun x => x.f0) ↔ ∃ m, ∃ hm : m < i, l[m].f0 = l[i].f0 := by
   rw [List.mem_map]; constructor
   ·rintro ⟨x, hx, he⟩; obtain ⟨m, hm, rfl⟩ := List.mem_iff_getElem.1 hx; rw [List.length_take] at hm; exact ⟨m, by omega, by rw [← he, List.getElem_take]⟩
   ·rintro ⟨m, hm, he⟩; exact ⟨l[m], List.mem_iff_getElem.2 ⟨m, by rw [List.length_take]; omega, by rw [List.getElem_take]⟩, he⟩
  have hnx : (l.take (i + 1)).map (fun x => x.f0) = (l.take i).map (fun x => x.f0) ++ [l[i].f0] := by
   rw [List.take_add_one, List.getElem?_eq_getElem (by omega), List.map_append]; rfl
  refine Ev.step (fun k => aD.l0.eq_2 _ _ _ _ _ _) ?_; simp only [if_pos (show ((i : Int) < (l.length : Int)) by omega), if_pos (show 0 ≤ (i : Int) by omega), en l i (by omega), dr, Option.bind_some]; have hj1 : ∀ (t : Bool), ((t = true ∧ 1 ≤ l[i].f1 ∧ l[i].f1 ≤ 3) ↔ f8 l[i]) → Ev (fun k => aD.j1 k l ((l.take i).map (fun x => x.f0)) t l (l.length : Int) (i : Int) l[i].f0 l[i].f1 l[i].f2) (decide (dt l i)) := by
   intro t ht; refine Ev.step (fun k => aD.j1.eq_2 _ _ _ _ _ _ _ _ _ _) ?_; refine Ev.bind (e6 l[i].f0 (by omega)) ?_; cases hnm : eU (am l[i].f0) with
   | false =>
    simp only [if_neg (show ¬ (false = true) by decide)]; refine cA (fun h => ?_) (Ev.now _); have := gh.2 (hst.1 h).1.1; rw [hnm] at this; cases this
   | true =>
    simp only [if_true]; refine Ev.bind (cZ _ _ (by rw [hlen]; omega)) ?_; simp only [decide_eq_true_eq, dr, Option.bind_some]; by_cases hc : l[i].f0 ∈ (l.take i).map (fun x => x.f0)
    ·simp only [if_pos hc]; obtain ⟨m, hm, he⟩ := hmem.1 hc; exact cA (fun h => (hst.1 h).1.2.2 m hm he) (Ev.now _)
    ·simp only [if_neg hc]; by_cases hp : f8 l[i]
     ·obtain ⟨h1, h2⟩ := ht.2 hp; simp only [if_pos h2, h1, if_true, hlen, if_pos (show i < 8796093022208 by omega), bT i (by omega)]; have hnext := ih (i + 1) (by omega); rw [hnx] at hnext; exact cN (hst.trans ⟨fun h => h.2, fun h => ⟨⟨gh.1 hnm, hp, fun m hm he => hc (hmem.2 ⟨m, hm, he⟩)⟩, h⟩⟩).symm hnext
     ·have hf : Ev (fun _ => some false) (decide (dt l i)) := cA (fun h => hp (hst.1 h).1.2.1) (Ev.now _); by_cases h2 : 1 ≤ l[i].f1 ∧ l[i].f1 ≤ 3
      ·have h1 : t = false := by
        cases t
        ·rfl
        ·exact absurd (ht.1 ⟨rfl, h2⟩) hp
       simp only [if_pos h2, h1, if_neg (show ¬ (false = true) by decide)]; exact hf
      ·simp only [if_neg h2]; exact hf
  by_cases h1 : l[i].f1 = 1
  ·simp only [if_pos h1]; refine hj1 _ ?_; unfold f8
   rw [decide_eq_true_eq]; constructor
   ·intro h; exact .inl ⟨h1, h.1⟩
   ·intro h; rcases h with h | h
    ·exact ⟨h.2, by omega, by omega⟩
    ·omega
  ·simp only [if_neg h1]; refine hj1 _ ?_; unfold f8
   rw [beq_iff_eq]; constructor
   ·intro h; exact .inr ⟨by omega, h.2.2, h.1⟩
   ·intro h; rcases h with h | h
    ·exact absurd h.1 h1
    ·exact ⟨h.2.2, by omega, h.2.1⟩
theorem gf (l : List S92) (hn : l.length ≤ 1048577) (hs : ∀ x ∈ l, x.f0.size ≤ 1048576) : Ev (fun k => aD.f k l) (fh l) := jh l hn hs l.length 0 (by omega)
open Classical in
theorem mo (F : List S92) (hF : F.length ≤ 1048576) (hFs : ∀ x ∈ F, x.f0.size ≤ 1048576) (key : ByteArray) (l : List S86) (hk : key.size ≤ 1048576) (hn : l.length ≤ 1048576) (hs : ∀ x ∈ l, x.f0.size ≤ 1048576 ∧ x.f1.size ≤ 1048576) : Ev (fun k => aX.f k F key l) (gI F key l) := by
 simp only [aX.f, gI]; have stop : ¬ jG F key l → Ev (fun k => aX.j0 k F true key l) (decide (jG F key l)) := by
  intro h; refine Ev.step (fun k => aX.j0.eq_2 _ _ _ _ _) ?_; simp only [if_true]; exact bj h (Ev.now _)
 refine Ev.bind (gf F (by omega) hFs) ?_; cases hf : fh F with
 | false => simp only [if_neg (show ¬ (false = true) by decide)]; exact stop (fun h => by have := h.1; rw [hf] at this; cases this)
 | true =>
  simp only [if_true]; refine Ev.bind (iI key l hk hn hs) ?_; cases hm : j6 key l with
  | false => exact stop (fun h => by have := h.2.1; rw [hm] at this; cases this)
  | true =>
   simp only [Bool.not_true]; refine Ev.step (fun k => aX.j0.eq_2 _ _ _ _ _) ?_; simp only [if_neg (show ¬ (false = true) by decide)]; have h := l4 F hF l hn hs l.length 0 (by omega); rw [List.drop_zero] at h; refine cO ?_ h; unfold jG
   exact ⟨fun h => ⟨hf, hm, h⟩, fun h => h.2.2⟩
set_option maxRecDepth 20000 in
theorem mJ (F : List S92) (hF : F.length ≤ 1048576) : ∀ (rs : List S46) (G : List ((ByteArray × ByteArray) × List S50)) (n : Nat), (G.map (·.1)).Nodup → fu n (dy (G.map toE)) → (∀ r ∈ rs, r.f1.f1.length ≤ 4 ∧ ∀ x ∈ r.f1.f1, x.f0.size ≤ 1000000 ∧ x.f1.size ≤ 1000) → n + rs.length * 4000 ≤ 1000000 →
  ∃ (G' : List ((ByteArray × ByteArray) × List S50)) (n' : Nat), Ev (fun k => entriesW.rs k F rs (G, n)) (G', n') ∧ Ev (fun k => bz.rs k F rs (dy (G.map toE))) (dy (G'.map toE)) ∧ fu n' (dy (G'.map toE)) ∧ n' ≤ n + rs.length * 4000
 | [], G, n, hn, hg, _, _ => ⟨G, n, gj (fun k => rfl), gj (fun k => rfl), hg, by omega⟩
 | r :: rs, G, n, hn, hg, hs, hc => by
  rw [List.length_cons] at hc; have hsr := hs r (by simp); obtain ⟨G1, n1, e1, e2, e3, e4, e5⟩ := hZ F hF r.f0 r.f1.f1 G n hn hg hsr.2 (by omega); obtain ⟨G2, n2, d1, d2, d4, d5⟩ := mJ F hF rs G1 n1 e3 e4 (fun x hx => hs x (List.mem_cons_of_mem _ hx)) (by omega); refine ⟨G2, n2, ?_, ?_, d4, by rw [List.length_cons]; omega⟩
  ·simp only [entriesW.rs]; exact Ev.bind e1 d1
  ·simp only [bz.rs]; exact Ev.bind e2 d2
theorem lz (F : List S92) (hF : F.length ≤ 1048576) (rs : List S46) (hs : ∀ r ∈ rs, r.f1.f1.length ≤ 4 ∧ ∀ x ∈ r.f1.f1, x.f0.size ≤ 1000000 ∧ x.f1.size ≤ 1000) (hc : rs.length ≤ 8) :
  ∃ L : List S76, Ev (fun k => dA.f k F rs) L ∧ Ev (fun k => bz.f k F rs) L ∧ fu 32000 L := by
 have hg : fu 0 (dy (([] : List ((ByteArray × ByteArray) × List S50)).map toE)) := ⟨Nat.le_refl _, fun e he => by cases he⟩; obtain ⟨G, n, e1, e2, e3, e4⟩ := mJ F hF rs [] 0 List.nodup_nil hg hs (by omega); refine ⟨dy (G.map toE), ?_, ?_, iJ e3 (by omega)⟩
 ·simp only [dA.f, entriesW.f]; exact Ev.bind e1 (Ev.now _)
 ·simp only [bz.f]; exact e2
theorem iQ (l : List S46) (j : Nat) (h : j < l.length) : ah l (j : Int) = l[j] := by
 unfold ah; simp [List.getD_eq_getElem?_getD, List.getElem?_eq_getElem h]
theorem dT {F : List S92} {R : List S46} {n : Int} {i : Nat} (h : i < R.length) : dn F R n i ↔ n9 F R n i h ∧ dn F R n (i + 1) := by
 constructor
 ·intro h2; exact ⟨h2 i h (Nat.le_refl _), fun j hj hij => h2 j hj (by omega)⟩
 ·rintro ⟨h1, h2⟩ j hj hij; rcases Nat.lt_or_ge i j with hlt | hge
  ·exact h2 j hj hlt
  ·obtain rfl : i = j := by omega
   exact h1
theorem kO {p q : S76} : p = q ↔ p.f0 = q.f0 ∧ p.f1 = q.f1 ∧ p.f2 = q.f2 := by
 constructor
 ·intro h; rw [h]; exact ⟨rfl, rfl, rfl⟩
 ·obtain ⟨a, b, e⟩ := p; obtain ⟨c, d, f⟩ := q; rintro ⟨h1, h2, h3⟩; have h1' : a = c := h1; have h2' : b = d := h2; have h3' : e = f := h3; rw [h1', h2', h3']
open Classical in
theorem qJ (a b : List Int) (ha : a.length ≤ 1099511627776) : Ev (fun k => aM.f k a b) (decide (a = b)) := by
 simp only [aM.f]; by_cases hl : a.length = b.length
 ·simp only [if_pos (show (a.length : Int) = (b.length : Int) by omega)]; have main : ∀ (d i : Nat), i + d = a.length → Ev (fun k => aM.l0 k a b (a.length : Int) (i : Int)) (decide (a.drop i = b.drop i)) := by
   intro d; induction d with
   | zero =>
    intro i hi; refine Ev.step (fun k => aM.l0.eq_2 _ _ _ _ _) ?_; simp only [if_neg (show ¬ ((i : Int) < (a.length : Int)) by omega)]; rw [List.drop_eq_nil_of_le (by omega), List.drop_eq_nil_of_le (by omega)]; exact eC rfl (Ev.now _)
   | succ d ih =>
    intro i hi; have hia : i < a.length := by omega
    have hib : i < b.length := by omega
    refine Ev.step (fun k => aM.l0.eq_2 _ _ _ _ _) ?_; simp only [if_pos (show ((i : Int) < (a.length : Int)) by omega), if_pos (show (0 : Int) ≤ (i : Int) by omega), if_pos (show ((i : Int) < (b.length : Int)) by omega), iF a i hia, iF b i hib, bT i (by omega)]; by_cases h : a[i] = b[i]
    ·simp only [if_pos h]; exact cO ⟨fun h2 => (ct hia hib).2 ⟨h, h2⟩, fun h2 => ((ct hia hib).1 h2).2⟩ (ih (i + 1) (by omega))
    ·simp only [if_neg h]; exact bj (fun h2 => h ((ct hia hib).1 h2).1) (Ev.now _)
  have := main a.length 0 (by omega); simpa using this
 ·simp only [if_neg (show ¬ (a.length : Int) = (b.length : Int) by omega)]; exact bj (fun h => hl (by rw [h])) (Ev.now _)
theorem nh {p q : S50} : p = q ↔ p.f0 = q.f0 ∧ p.f1 = q.f1 := by
 constructor
 ·intro h; rw [h]; exact ⟨rfl, rfl⟩
 ·obtain ⟨a, b⟩ := p; obtain ⟨c, d⟩ := q; rintro ⟨h1, h2⟩; have h1' : a = c := h1; have h2' : b = d := h2; rw [h1', h2']
open Classical in
theorem jg (p q : S50) (hp : p.f1.length ≤ 1099511627776) : Ev (fun k => dq.f k p.f0 p.f1 q.f0 q.f1) (decide (p = q)) := by
 simp only [dq.f]; by_cases h0 : p.f0 = q.f0
 ·simp only [if_pos h0]; refine Ev.bind (qJ p.f1 q.f1 hp) ?_; exact cO ⟨fun h => nh.2 ⟨h0, h⟩, fun h => (nh.1 h).2⟩ (Ev.now (decide (p.f1 = q.f1)))
 ·simp only [if_neg h0]; exact bj (fun h => h0 (by rw [h])) (Ev.now _)
open Classical in
theorem m6 (a b : List S50) (ha : a.length ≤ 1099511627776) (hs : ∀ p ∈ a, p.f1.length ≤ 1099511627776) : Ev (fun k => dc.f k a b) (decide (a = b)) := by
 simp only [dc.f]; by_cases hl : a.length = b.length
 ·simp only [if_pos (show (a.length : Int) = (b.length : Int) by omega)]; have main : ∀ (d i : Nat), i + d = a.length → Ev (fun k => dc.l0 k b a (a.length : Int) (i : Int)) (decide (a.drop i = b.drop i)) := by
   intro d; induction d with
   | zero =>
    intro i hi; refine Ev.step (fun k => dc.l0.eq_2 _ _ _ _ _) ?_; simp only [if_neg (show ¬ ((i : Int) < (a.length : Int)) by omega)]; rw [List.drop_eq_nil_of_le (by omega), List.drop_eq_nil_of_le (by omega)]; exact eC rfl (Ev.now _)
   | succ d ih =>
    intro i hi; have hia : i < a.length := by omega
    have hib : i < b.length := by omega
    refine Ev.step (fun k => dc.l0.eq_2 _ _ _ _ _) ?_; simp only [if_pos (show ((i : Int) < (a.length : Int)) by omega), if_pos (show (0 : Int) ≤ (i : Int) by omega), if_pos (show ((i : Int) < (b.length : Int)) by omega), gL a i hia, gL b i hib, bT i (by omega)]; refine Ev.bind (jg a[i] b[i] (hs _ (List.getElem_mem hia))) ?_; by_cases h : a[i] = b[i]
    ·rw [decide_eq_true h]; simp only [if_true]; exact cO ⟨fun h2 => (ct hia hib).2 ⟨h, h2⟩, fun h2 => ((ct hia hib).1 h2).2⟩ (ih (i + 1) (by omega))
    ·rw [decide_eq_false h]; simp only [if_neg (show ¬ (false = true) by decide)]; exact bj (fun h2 => h ((ct hia hib).1 h2).1) (Ev.now _)
  have := main a.length 0 (by omega); simpa using this
 ·simp only [if_neg (show ¬ (a.length : Int) = (b.length : Int) by omega)]; exact bj (fun h => hl (by rw [h])) (Ev.now _)
open Classical in
theorem iT (p q : S76) (hp : p.f2.length ≤ 1099511627776) (hs : ∀ x ∈ p.f2, x.f1.length ≤ 1099511627776) : Ev (fun k => dj.f k p.f0 p.f1 p.f2 q.f0 q.f1 q.f2) (decide (p = q)) := by
 simp only [dj.f, toList_inj]; by_cases h0 : p.f0 = q.f0
 ·simp only [if_pos h0]; by_cases h1 : p.f1 = q.f1
  ·simp only [if_pos h1]; refine Ev.bind (m6 p.f2 q.f2 hp hs) ?_; exact cO ⟨fun h => kO.2 ⟨h0, h1, h⟩, fun h => (kO.1 h).2.2⟩ (Ev.now (decide (p.f2 = q.f2)))
  ·simp only [if_neg h1]; exact bj (fun h => h1 (by rw [h])) (Ev.now _)
 ·simp only [if_neg h0]; exact bj (fun h => h0 (by rw [h])) (Ev.now _)
open Classical in
theorem lP (a b : List S76) (ha : a.length ≤ 1099511627776) (hs : ∀ e ∈ a, e.f2.length ≤ 1099511627776 ∧ ∀ p ∈ e.f2, p.f1.length ≤ 1099511627776) : Ev (fun k => cK.f k a b) (decide (a = b)) := by
 simp only [cK.f]; by_cases hl : a.length = b.length
 ·simp only [if_pos (show (a.length : Int) = (b.length : Int) by omega)]; have main : ∀ (d i : Nat), i + d = a.length → Ev (fun k => cK.l0 k b a (a.length : Int) (i : Int)) (decide (a.drop i = b.drop i)) := by
   intro d; induction d with
   | zero =>
    intro i hi; refine Ev.step (fun k => cK.l0.eq_2 _ _ _ _ _) ?_; simp only [if_neg (show ¬ ((i : Int) < (a.length : Int)) by omega)]; rw [List.drop_eq_nil_of_le (by omega), List.drop_eq_nil_of_le (by omega)]; exact eC rfl (Ev.now _)
   | succ d ih =>
    intro i hi; have hia : i < a.length := by omega
    have hib : i < b.length := by omega
    have hx := hs _ (List.getElem_mem hia); refine Ev.step (fun k => cK.l0.eq_2 _ _ _ _ _) ?_; simp only [if_pos (show ((i : Int) < (a.length : Int)) by omega), if_pos (show (0 : Int) ≤ (i : Int) by omega), if_pos (show ((i : Int) < (b.length : Int)) by omega), fa a i hia, fa b i hib, bT i (by omega)]; refine Ev.bind (iT a[i] b[i] hx.1 hx.2) ?_; by_cases h : a[i] = b[i]
    ·rw [decide_eq_true h]; simp only [if_true]; exact cO ⟨fun h2 => (ct hia hib).2 ⟨h, h2⟩, fun h2 => ((ct hia hib).1 h2).2⟩ (ih (i + 1) (by omega))
    ·rw [decide_eq_false h]; simp only [if_neg (show ¬ (false = true) by decide)]; exact bj (fun h2 => h ((ct hia hib).1 h2).1) (Ev.now _)
  have := main a.length 0 (by omega); simpa using this
 ·simp only [if_neg (show ¬ (a.length : Int) = (b.length : Int) by omega)]; exact bj (fun h => hl (by rw [h])) (Ev.now _)
open Classical in
theorem kk {F : List S92} {R : List S46} {E : List S76} (hz : f3 F R E) (n : Int) (hf : fh F = true) (h8 : R.length ≤ 8) (hn : 0 ≤ n ∧ n ≤ 999999999) : ∀ (d i : Nat), i + d = R.length → (∀ (j : Nat) (h : j < R.length), j < i → n9 F R n j h) → Ev (fun k => al.l0 k R (R.length : Int) (i : Int) F R E n) (decide (dn F R n i ∧ ik F R E n)) := by
 have hr := hz.r; intro d; induction d with
 | zero =>
  intro i hi hprev; have hall : dn F R n 0 := fun j hj _ => hprev j hj (by omega)
  have hend : dn F R n i := fun j hj hij => by omega
  refine Ev.step (fun k => al.l0.eq_2 _ _ _ _ _ _ _ _) ?_; simp only [if_neg (show ¬ ((i : Int) < (R.length : Int)) by omega)]; obtain ⟨L, h1, h2, h3⟩ := lz F hz.f R (jm hall) h8; refine Ev.bind h1 ?_; refine Ev.bind (lP E L (by have := hz.e; omega) (fun e he => ⟨by have := (hz.es e he).1; omega, fun p hp => by have := (hz.es e he).2 p hp; omega⟩)) ?_; exact cO ⟨fun h => ⟨hend, hf, h8, hn, by rw [h]; exact h2⟩, fun h => jp h.2.2.2.2 h2⟩ (Ev.now (decide (E = L)))
 | succ d ih =>
  intro i hi hprev; have hil : i < R.length := by omega
  have hs := hz.rs _ (List.getElem_mem hil); have next : n9 F R n i hil → Ev (fun k => al.l0 k R (R.length : Int) ((i + 1 : Nat) : Int) F R E n) (decide (dn F R n i ∧ ik F R E n)) := fun hp =>
   cO ⟨fun h => ⟨(dT hil).2 ⟨hp, h.1⟩, h.2⟩, fun h => ⟨((dT hil).1 h.1).2, h.2⟩⟩ (ih (i + 1) (by omega) (fun j hj hji => by
    rcases Nat.lt_or_ge j i with hlt | hge
    ·exact hprev j hj hlt
    ·obtain rfl : j = i := by omega
     exact hp))
  have stop : ¬ n9 F R n i hil → Ev (fun _ : Nat => some false) (decide (dn F R n i ∧ ik F R E n)) := fun hp => bj (fun h => hp ((dT hil).1 h.1).1) (Ev.now _)
  have doc : (0 ≤ R[i].f0 ∧ R[i].f0 ≤ wrap64 (n - 1)) → (∀ h0 : 0 < i, (R[i - 1]'(by omega)).f0 < R[i].f0) → Ev (fun k => (aX.f k F R[i].f1.f0 R[i].f1.f1).bind fun t => if t = true then (cX.f F R E n R[i].f1.f0).bind fun t2 => if t2 = (i : Int) then al.l0 k R (R.length : Int) ((i + 1 : Nat) : Int) F R E n else some false else some false) (decide (dn F R n i ∧ ik F R E n)) := by
   intro hin ho; refine Ev.bind (mo F hz.f hz.fs R[i].f1.f0 R[i].f1.f1 hs.1 hs.2.1 hs.2.2) ?_; cases hd : gI F R[i].f1.f0 R[i].f1.f1 with
   | false => simp only [if_neg (show ¬ (false = true) by decide)]; exact stop (fun h => by have := h.1; rw [hd] at this; cases this)
   | true =>
    simp only [if_true, cX.f, Option.bind_some]; by_cases hk : d8 R[i].f1.f0 0 R = (i : Int)
    ·simp only [if_pos hk]; exact next ⟨hd, hk, hin, ho⟩
    ·simp only [if_neg hk]; exact stop (fun h => hk h.2.1)
  refine Ev.step (fun k => al.l0.eq_2 _ _ _ _ _ _ _ _) ?_; simp only [if_pos (show ((i : Int) < (R.length : Int)) by omega), if_pos (show (0 : Int) ≤ (i : Int) by omega), iQ R i hil, bT i (by omega), dr, Option.bind_some]; by_cases hin : 0 ≤ R[i].f0 ∧ R[i].f0 ≤ wrap64 (n - 1)
  ·simp only [decide_eq_true hin, if_true]; by_cases h0 : 0 < i
   ·obtain ⟨m, rfl⟩ : ∃ m, i = m + 1 := ⟨i - 1, by omega⟩; simp only [if_pos (show ((m + 1 : Nat) : Int) > 0 by omega), wpred m (by omega), if_pos (show (0 : Int) ≤ (m : Int) by omega), if_pos (show ((m : Int) < (R.length : Int)) by omega), iQ R m (by omega)]; by_cases ho : R[m].f0 ≥ R[m + 1].f0
    ·simp only [if_pos ho]; exact stop (fun h => by have h2 : R[m].f0 < R[m + 1].f0 := h.2.2.2 h0; omega)
    ·simp only [if_neg ho]; exact doc hin (fun _ => by show R[m].f0 < R[m + 1].f0; omega)
   ·simp only [if_neg (show ¬ ((i : Int) > 0) by omega)]; exact doc hin (fun h => absurd h h0)
  ·simp only [decide_eq_false hin, if_neg (show ¬ (false = true) by decide)]; exact stop (fun h => hin h.2.2.1)
open Classical in
theorem ko {F : List S92} {R : List S46} {E : List S76} (hz : f3 F R E) (n : Int) : Ev (fun k => al.f k F R E n) (gt F R E n) := by
 have hr := hz.r; simp only [al.f, gt]; have stop : ¬ ik F R E n → Ev (fun k => al.j0 k true F R E n) (decide (dn F R n 0 ∧ ik F R E n)) := by
  intro h; refine Ev.step (fun k => al.j0.eq_2 _ _ _ _ _ _) ?_; simp only [if_true]; exact bj (fun h2 => h h2.2) (Ev.now _)
 refine Ev.bind (gf F (by have := hz.f; omega) hz.fs) ?_; cases hf : fh F with
 | false => simp only [if_neg (show ¬ (false = true) by decide)]; exact stop (fun h => by have := h.1; rw [hf] at this; cases this)
 | true =>
  simp only [if_true]; by_cases h8 : R.length ≤ 8
  ·simp only [if_neg (show ¬ ((R.length : Int) > 8) by omega), dr, Option.bind_some]; by_cases hn : 0 ≤ n ∧ n ≤ 999999999
   ·simp only [decide_eq_true hn, Bool.not_true]; refine Ev.step (fun k => al.j0.eq_2 _ _ _ _ _ _) ?_; simp only [if_neg (show ¬ (false = true) by decide)]; exact kk hz n hf h8 hn R.length 0 (by omega) (fun j hj h => by omega)
   ·simp only [decide_eq_false hn, Bool.not_false]; exact stop (fun h => hn h.2.2.1)
  ·simp only [if_pos (show ((R.length : Int) > 8) by omega)]; exact stop (fun h => h8 h.2.1)
theorem iz (f t : ByteArray) (E : List S76) (n i0 : Int) (ps : List S50) (r : List S50) (hp : ∀ p ∈ ps, p.f1.length ≤ 1048576) (hn : ps.length ≤ 1048576) : ∀ (d i : Nat) (acc : List S50), i + d = ps.length → acc.length + d ≤ 4398046511103 →
  Ev (fun k => aj.l0 k f t (acc ++ ps.drop i) E n (wrap64 (i0 + 1))) r → Ev (fun k => aj.l1 k f t acc E n i0 ps (ps.length : Int) (i : Int)) r := by
 intro d; induction d with
 | zero =>
  intro i acc hi ha h; refine Ev.step (fun k => aj.l1.eq_2 _ _ _ _ _ _ _ _ _ _) ?_; simp only [if_neg (show ¬ ((i : Int) < (ps.length : Int)) by omega)]; rwa [List.drop_of_length_le (by omega), List.append_nil] at h
 | succ d ih =>
  intro i acc hi ha h; have hl : i < ps.length := by omega
  have h1 := hp ps[i] (List.getElem_mem hl); refine Ev.step (fun k => aj.l1.eq_2 _ _ _ _ _ _ _ _ _ _) ?_; rw [List.drop_eq_getElem_cons hl] at h; simp only [if_pos (show ((i : Int) < (ps.length : Int)) by omega), if_pos (show 0 ≤ (i : Int) by omega), gL ps i hl, Option.bind_some, List.length_nil, Nat.zero_add, List.nil_append, if_pos (show ps[i].f1.length < 17592186044416 by omega), if_pos (show acc.length < 4398046511104 by omega), bT i (by omega)]; refine ih (i + 1) (acc ++ [⟨ps[i].f0, ps[i].f1⟩]) (by omega) (by simp; omega) ?_; rw [List.append_assoc]; exact h
theorem iD (E : List S76) (f t : ByteArray) (hE : E.length ≤ 1048576) (he : ∀ x ∈ E, x.f2.length ≤ 1048576 ∧ ∀ p ∈ x.f2, p.f1.length ≤ 1048576) : ∀ (d i : Nat) (acc : List S50), i + d = E.length → acc.length ≤ i * 1048576 → Ev (fun k => aj.l0 k f t acc E (E.length : Int) (i : Int)) (acc ++ fv f t (E.drop i)) := by
 intro d; induction d with
 | zero =>
  intro i acc hi ha; refine Ev.step (fun k => aj.l0.eq_2 _ _ _ _ _ _ _) ?_; simp only [if_neg (show ¬ ((i : Int) < (E.length : Int)) by omega)]; rw [List.drop_of_length_le (by omega), fv, List.append_nil]; exact Ev.now _
 | succ d ih =>
  intro i acc hi ha; have hl : i < E.length := by omega
  have h0 := he E[i] (List.getElem_mem hl); refine Ev.step (fun k => aj.l0.eq_2 _ _ _ _ _ _ _) ?_; rw [List.drop_eq_getElem_cons hl, fv]; simp only [if_pos (show ((i : Int) < (E.length : Int)) by omega), if_pos (show 0 ≤ (i : Int) by omega), fa E i hl]; have skip : Ev (fun k => aj.j1 k f t acc E (E.length : Int) (i : Int) true E[i].f0 E[i].f1 E[i].f2) (acc ++ fv f t (E.drop (i + 1))) := by
   refine Ev.step (fun k => aj.j1.eq_2 _ _ _ _ _ _ _ _ _ _ _) ?_; simp only [if_true, bT i (by omega)]; exact ih (i + 1) acc (by omega) (Nat.le_trans ha (Nat.mul_le_mul_right _ (Nat.le_succ i)))
  by_cases h1 : E[i].f0.toList = f.toList
  ·simp only [if_pos h1]; by_cases h2 : E[i].f1.toList = t.toList
   ·simp only [if_pos h2]; have e : (E[i].f1.toList != t.toList) = false := by rw [h2]; exact bne_self_eq_false _
    simp only [e]; refine Ev.step (fun k => aj.j1.eq_2 _ _ _ _ _ _ _ _ _ _ _) ?_; simp only [if_neg (show ¬ (false = true) by decide)]; refine iz f t E (E.length : Int) (i : Int) E[i].f2 _ h0.2 h0.1 E[i].f2.length 0 acc (by omega) (by omega) ?_; rw [bT i (by omega), List.drop_zero, ← List.append_assoc]; exact ih (i + 1) (acc ++ E[i].f2) (by omega) (by rw [List.length_append, Nat.succ_mul]; exact Nat.add_le_add ha h0.1)
   ·simp only [if_neg h2]; have e : (E[i].f1.toList != t.toList) = true := bne_iff_ne.2 h2; simp only [e]; exact skip
  ·simp only [if_neg h1]; exact skip
theorem iG {F : List S92} {R : List S46} {E : List S76} (hz : f3 F R E) (n : Int) (f t : ByteArray) : Ev (fun k => aj.f k F R E n f t) (fX F R E n f t) := by
 have he := hz.e; simp only [aj.f, Option.bind_some]; refine Ev.bind (ko hz n) ?_; unfold fX
 by_cases hb : gt F R E n = true
 ·simp only [if_pos hb]; exact iD E f t he hz.es E.length 0 [] (by omega) (by simp)
 ·simp only [if_neg hb]; exact Ev.now _
theorem dO (a b c : Int) : b6.f a b c = some (decide (b ≤ a ∧ a ≤ c)) := by
 unfold b6.f
 by_cases h : a ≥ b
 ·rw [if_pos h]; congr 1; exact decide_eq_decide.2 ⟨fun h2 => ⟨h, h2⟩, fun h2 => h2.2⟩
 ·rw [if_neg h]; congr 1; symm; exact decide_eq_false (fun h2 => h h2.1)
open Classical in
theorem lr (s : ByteArray) (hn : s.size < 4611686018427387904) : ∀ (d i : Nat), i + d = s.size → Ev (fun k => aJ.l0 k s (i : Int)) (decide (dD (am s) i)) := by
 have hb := bW s; intro d; induction d with
 | zero =>
  intro i hi; refine Ev.step (fun k => aJ.l0.eq_2 _ _ _) ?_; simp only [if_neg (show ¬ ((i : Int) < (s.size : Int)) by omega), dO, Option.bind_some]; refine cN (iR (by omega)).symm ?_; refine gj fun _ => ?_
  congr 1; exact decide_eq_decide.2 (by omega)
 | succ d ih =>
  intro i hi; have hs := iv (l := am s) (j := i) (by omega); refine Ev.step (fun k => aJ.l0.eq_2 _ _ _) ?_; simp only [if_pos (show ((i : Int) < (s.size : Int)) by omega), if_pos (show 0 ≤ (i : Int) by omega), bT i (by omega), gK s i (by omega)]; by_cases h1 : lN (am s)[i]
  ·simp only [if_pos (show (am s)[i] ≥ 97 from h1.1), if_pos h1.2]; exact cN (hs.trans ⟨fun h => h.2, fun h => ⟨.inl h1, h⟩⟩).symm (ih (i + 1) (by omega))
  ·have key : Ev (fun k => if (i : Int) = 0 then some false else if (am s)[i] < 48 then some false else if (am s)[i] > 57 then some false else aJ.l0 k s ((i + 1 : Nat) : Int)) (decide (dD (am s) i)) := by
    by_cases h0 : (i : Int) = 0
    ·simp only [if_pos h0]; have : decide (dD (am s) i) = false := decide_eq_false (fun h => by rcases (hs.1 h).1 with h2 | h2; exact h1 h2; omega); rw [this]; exact Ev.now _
    ·simp only [if_neg h0]; by_cases h2 : lV (am s)[i]
     ·simp only [if_neg (show ¬ (am s)[i] < 48 by have := h2.1; omega), if_neg (show ¬ (am s)[i] > 57 by have := h2.2; omega)]; exact cN (hs.trans ⟨fun h => h.2, fun h => ⟨.inr ⟨by omega, h2⟩, h⟩⟩).symm (ih (i + 1) (by omega))
     ·have : decide (dD (am s) i) = false := decide_eq_false (fun h => by rcases (hs.1 h).1 with h3 | h3; exact h1 h3; exact h2 h3.2); rw [this]; by_cases h3 : (am s)[i] < 48
      ·simp only [if_pos h3]; exact Ev.now _
      ·simp only [if_neg h3, if_pos (show (am s)[i] > 57 by unfold lV at h2; omega)]; exact Ev.now _
   by_cases h3 : (am s)[i] ≥ 97
   ·simp only [if_pos h3, if_neg (show ¬ (am s)[i] ≤ 122 by unfold lN at h1; omega)]; exact key
   ·simp only [if_neg h3]; exact key
theorem eY (s : ByteArray) (hn : s.size < 4611686018427387904) : Ev (fun k => aJ.f k s) (eU (am s)) := lr s hn s.size 0 (by omega)
open Classical in
theorem kU (s : ByteArray) (hs : s.size < 4611686018427387904) : ∀ (d i : Nat), i + d = s.size → Ev (fun k => bk.l0 k s (i : Int)) (decide ((∀ c ∈ (am s).drop i, sa c) ∧ (s.size : Int) ≤ 60)) := by
 have hlen := bW s; intro d; induction d with
 | zero =>
  intro i hi; refine Ev.step (fun k => bk.l0.eq_2 _ _ _) ?_; simp only [if_neg (show ¬ ((i : Int) < (s.size : Int)) by omega)]; refine cN ?_ (Ev.now _); rw [List.drop_eq_nil_of_le (by omega)]; exact ⟨fun h => ⟨fun c hc => by simp at hc, h⟩, fun h => h.2⟩
 | succ d ih =>
  intro i hi; refine Ev.step (fun k => bk.l0.eq_2 _ _ _) ?_; simp only [if_pos (show ((i : Int) < (s.size : Int)) by omega), if_pos (show 0 ≤ (i : Int) by omega), pw s i (by omega), dO, Option.bind_some, decide_eq_true_eq, bT i (by omega)]; have e := List.drop_eq_getElem_cons (l := am s) (i := i) (by omega); by_cases hw : 32 ≤ (am s)[i] ∧ (am s)[i] ≤ 126
  ·simp only [if_pos hw]; refine cN ?_ (ih (i + 1) (by omega)); rw [e]; constructor
   ·rintro ⟨h1, h2⟩; exact ⟨fun c hc => by rcases List.mem_cons.1 hc with h | h; exact h ▸ hw; exact h1 c h, h2⟩
   ·rintro ⟨h1, h2⟩; exact ⟨fun c hc => h1 c (List.mem_cons_of_mem _ hc), h2⟩
  ·simp only [if_neg hw]; refine cA (fun h => hw (h.1 _ ?_)) (Ev.now _); rw [e]; exact List.mem_cons_self ..
theorem gG (s : ByteArray) (hs : s.size < 4611686018427387904) : Ev (fun k => bk.f k s) (eu s 60) := by
 simp only [bk.f, eu]; exact kU s hs s.size 0 (by omega)
open Classical in
theorem kX (key : ByteArray) (l : List S86) (hk : key.size ≤ 1048576) (hn : l.length ≤ 1048576) (hs : ∀ x ∈ l, x.f0.size ≤ 1048576 ∧ x.f1.size ≤ 1048576) : ∀ (d i : Nat), i + d = l.length →
  Ev (fun k => aQ.l0 k (i : Int) key l) (decide (gg key l i)) := by
 intro d; induction d with
 | zero =>
  intro i hi; refine Ev.step (fun k => aQ.l0.eq_2 _ _ _ _) ?_; simp only [if_neg (show ¬ ((i : Int) < (l.length : Int)) by omega)]; refine cN (i6 (by omega)).symm ?_; refine Ev.bind (eY key (by omega)) ?_; cases hnm : eU (am key) with
  | false => simp only [if_neg (show ¬ (false = true) by decide)]; exact cA (fun h => by cases h.1) (Ev.now _)
  | true =>
   simp only [if_true]; exact cN ⟨fun h => ⟨(by first | trivial | rfl), by omega⟩, fun h => by have := h.2; omega⟩ (Ev.now _)
 | succ d ih =>
  intro i hi; have hst := ig (key := key) (l := l) (j := i) (by omega); have hsz := hs l[i] (List.getElem_mem _); have hnext := ih (i + 1) (by omega); refine Ev.step (fun k => aQ.l0.eq_2 _ _ _ _) ?_; simp only [if_pos (show ((i : Int) < (l.length : Int)) by omega), if_pos (show 0 ≤ (i : Int) by omega), fi l i (by omega), bT i (by omega)]; refine Ev.bind (eY l[i].f0 (by omega)) ?_; cases hnm : eU (am l[i].f0) with
  | false => simp only [if_neg (show ¬ (false = true) by decide)]; exact cA (fun h => by have := (hst.1 h).1.1; rw [hnm] at this; cases this) (Ev.now _)
  | true =>
   simp only [if_true]; refine Ev.bind (gG l[i].f1 (by omega)) ?_; cases htx : eu l[i].f1 60 with
   | false => simp only [if_neg (show ¬ (false = true) by decide)]; exact cA (fun h => by have := (hst.1 h).1.2.1; rw [htx] at this; cases this) (Ev.now _)
   | true =>
    simp only [if_true]; by_cases h0 : (i : Int) > 0
    ·have he : wrap64 ((i : Int) - 1) = ((i - 1 : Nat) : Int) := by rw [br (by omega) (by omega)]; omega
     simp only [if_pos h0, he, if_pos (show 0 ≤ ((i - 1 : Nat) : Int) by omega), if_pos (show ((i - 1 : Nat) : Int) < (l.length : Int) by omega), fi l (i - 1) (by omega)]; by_cases hl : py (l[i - 1]'(by omega)).f0 l[i].f0
     ·have hl2 : Op.bytesLess (l[i - 1]'(by omega)).f0.toList l[i].f0.toList = true := hl; simp only [hl2, if_true]; exact cN (hst.trans ⟨fun h => h.2, fun h => ⟨⟨hnm, htx, fun _ => hl⟩, h⟩⟩).symm hnext
     ·have hl2 : Op.bytesLess (l[i - 1]'(by omega)).f0.toList l[i].f0.toList = false := Bool.eq_false_iff.2 hl; simp only [hl2, if_neg (show ¬ (false = true) by decide)]; exact cA (fun h => hl ((hst.1 h).1.2.2 (by omega))) (Ev.now _)
    ·simp only [if_neg h0]; exact cN (hst.trans ⟨fun h => h.2, fun h => ⟨⟨hnm, htx, fun h1 => by omega⟩, h⟩⟩).symm hnext
theorem lx (key : ByteArray) (l : List S86) (hk : key.size ≤ 1048576) (hn : l.length ≤ 1048576) (hs : ∀ x ∈ l, x.f0.size ≤ 1048576 ∧ x.f1.size ≤ 1048576) : Ev (fun k => aQ.f k key l) (j6 key l) := kX key l hk hn hs l.length 0 (by omega)
def isD (c : UInt8) : Prop := 48 ≤ c.toNat ∧ c.toNat ≤ 57
instance (c : UInt8) : Decidable (isD c) := by unfold isD; infer_instance
def lB (l : List UInt8) : Prop := l ≠ [] ∧ (∀ c ∈ l, isD c) ∧ (1 < l.length → l.head? ≠ some 48)
theorem qF {l : List UInt8} {i : Nat} (h : i < l.length) (hd : ¬ isD l[i]) : ¬ lB l := fun hc => hd (hc.2.1 _ (List.getElem_mem h))
def eD (acc : Nat) (l : List UInt8) : Nat := l.foldl (fun a c => a * 10 + (c.toNat - 48)) acc
theorem gR (a : List UInt8) (acc : Nat) (b : List UInt8) : eD acc (a ++ b) = eD (eD acc a) b := by unfold eD; rw [List.foldl_append]
theorem eq (acc : Nat) (c : UInt8) (r : List UInt8) : eD acc (c :: r) = eD (acc * 10 + (c.toNat - 48)) r := by unfold eD; rw [List.foldl_cons]
theorem fM (acc : Nat) : eD acc [] = acc := rfl
theorem qn {l : List UInt8} {i : Nat} (h : i < l.length) : eD 0 (l.take (i + 1)) = eD 0 (l.take i) * 10 + (l[i].toNat - 48) := by
 rw [List.take_add_one, List.getElem?_eq_getElem h]; show eD 0 (l.take i ++ [l[i]]) = _
 rw [gR, eq, fM]
theorem pF (s : ByteArray) (i : Nat) (h : i < s.data.toList.length) : bt s (i : Int) = ((s.data.toList[i]).toNat : Int) := by
 rw [gK s i (by rw [bW]; exact h)]; unfold am
 rw [List.getElem_map]
open Classical in
noncomputable def eL (s : ByteArray) : Int := if lB s.data.toList ∧ s.size ≤ 9 then (eD 0 s.data.toList : Int) else -1
theorem mN : ∀ (l : List UInt8) (acc : Nat), (∀ c ∈ l, isD c) → eD acc l < (acc + 1) * 10 ^ l.length
 | [], acc, _ => by rw [fM]; simp
 | c :: l, acc, h => by
  have hc := h c (by simp); unfold isD at hc
  have h1 := mN l (acc * 10 + (c.toNat - 48)) (fun x hx => h x (List.mem_cons_of_mem _ hx)); rw [eq, List.length_cons, Nat.pow_succ, Nat.mul_comm (10 ^ l.length) 10, ← Nat.mul_assoc]; refine Nat.lt_of_lt_of_le h1 (Nat.mul_le_mul_right _ (by omega))
theorem mU (s : ByteArray) (hs : s.size ≤ 1099511627776) : ∀ (d i : Nat), i + d = s.size → i ≤ 9 → (∀ c ∈ s.data.toList.take i, isD c) →
  Ev (fun k => bp.l0 k s ((eD 0 (s.data.toList.take i) : Nat) : Int) (i : Int)) (eL s) := by
 have hlen := fC s; intro d; induction d with
 | zero =>
  intro i hi h9 hd; refine Ev.step (fun k => bp.l0.eq_2 _ _ _ _) ?_; have et : s.data.toList.take i = s.data.toList := List.take_of_length_le (by omega); rw [et] at hd ⊢; simp only [if_neg (show ¬ ((i : Int) < (s.size : Int)) by omega)]; by_cases h0 : s.size = 0
  ·have e0 : eL s = -1 := by unfold eL; rw [if_neg (fun hc => hc.1.1 (List.length_eq_zero_iff.1 (by omega)))]
   rw [e0]; simp only [if_pos (show (s.size : Int) = 0 by omega)]; exact Ev.now _
  ·simp only [if_neg (show ¬ (s.size : Int) = 0 by omega)]; have hne : s.data.toList ≠ [] := fun e => h0 (by rw [← hlen, e]; rfl)
   by_cases h1 : (s.size : Int) > 1
   ·have hb := pF s 0 (by omega); have hb0 : bt s 0 = ((s.data.toList[0]'(by omega)).toNat : Int) := hb; simp only [if_pos h1, if_pos (show 0 < (s.size : Int) by omega), hb0]; have hh : s.data.toList.head? = some (s.data.toList[0]'(by omega)) := by
     rw [List.head?_eq_getElem?, List.getElem?_eq_getElem]
    by_cases h48 : ((s.data.toList[0]'(by omega)).toNat : Int) = 48
    ·have e48 : s.data.toList[0]'(by omega) = 48 := UInt8.toNat_inj.1 (show _ = 48 by omega); have e0 : eL s = -1 := by unfold eL; rw [if_neg (fun hc => hc.1.2.2 (by omega) (by rw [hh, e48]))]
     rw [e0]; simp only [if_pos h48]; exact Ev.now _
    ·have e0 : eL s = ((eD 0 s.data.toList : Nat) : Int) := by unfold eL; rw [if_pos ⟨⟨hne, hd, fun _ he => by rw [hh] at he; exact h48 (by rw [Option.some.inj he]; rfl)⟩, by omega⟩]
     rw [e0]; simp only [if_neg h48]; exact Ev.now _
   ·have e0 : eL s = ((eD 0 s.data.toList : Nat) : Int) := by unfold eL; rw [if_pos ⟨⟨hne, hd, fun h => by omega⟩, by omega⟩]
    rw [e0]; simp only [if_neg h1]; exact Ev.now _
 | succ d ih =>
  intro i hi h9 hd; have hil : i < s.data.toList.length := by omega
  have hb := pF s i hil; refine Ev.step (fun k => bp.l0.eq_2 _ _ _ _) ?_; simp only [if_pos (show ((i : Int) < (s.size : Int)) by omega), if_pos (show 0 ≤ (i : Int) by omega), hb]; have hno : ∀ (h : ¬ isD s.data.toList[i]), eL s = -1 := fun h => by unfold eL; rw [if_neg (fun hc => qF hil h hc.1)]
  by_cases h1 : ((s.data.toList[i]).toNat : Int) < 48
  ·simp only [if_pos h1]; rw [hno (by unfold isD; omega)]; exact Ev.now _
  ·by_cases h2 : ((s.data.toList[i]).toNat : Int) > 57
   ·simp only [if_neg h1, if_pos h2]; rw [hno (by unfold isD; omega)]; exact Ev.now _
   ·by_cases h3 : (i : Int) ≥ 9
    ·simp only [if_neg h1, if_neg h2, if_pos h3]; have : eL s = -1 := by unfold eL; rw [if_neg (fun hc => by have := hc.2; omega)]
     rw [this]; exact Ev.now _
    ·have hlt := mN (s.data.toList.take i) 0 hd; have hl1 : (s.data.toList.take i).length = i := by rw [List.length_take]; omega
     rw [hl1] at hlt; have hp : 10 ^ i ≤ 10 ^ 9 := Nat.pow_le_pow_right (by decide) (by omega); have e9 : (10 : Nat) ^ 9 = 1000000000 := by decide
     have hstep := qn hil; have ew : wrap64 (wrap64 (((eD 0 (s.data.toList.take i) : Nat) : Int) * 10) + ((((s.data.toList[i]).toNat : Int) - 48) % 256)) = ((eD 0 (s.data.toList.take (i + 1)) : Nat) : Int) := by
      rw [hstep, br (x := ((eD 0 (s.data.toList.take i) : Nat) : Int) * 10) (by omega) (by omega), br (by omega) (by omega)]; omega
     simp only [if_neg h1, if_neg h2, if_neg h3, ew, bT i (by omega)]; refine ih (i + 1) (by omega) (by omega) (fun c hc => ?_); rw [List.take_add_one, List.getElem?_eq_getElem hil] at hc; rcases List.mem_append.1 hc with h | h
     ·exact hd c h
     ·have : c = s.data.toList[i] := by simpa using h
      rw [this]; unfold isD; omega
theorem fU (s : ByteArray) (hs : s.size ≤ 1099511627776) : Ev (fun k => bp.f k s) (eL s) := by
 have := mU s hs s.size 0 (by omega) (by omega) (fun c hc => by simp at hc); simpa [bp.f, fM] using this
theorem nc {n : Int} (h : 0 ≤ n) : Lib.itoa n = Lib.decDigits n.toNat := by unfold Lib.itoa; rw [if_neg (by omega)]
theorem hJ (v : Nat) (h : v < 10) : (UInt8.ofNat (48 + v)).toNat = 48 + v := by rw [UInt8.toNat_ofNat']; exact Nat.mod_eq_of_lt (by omega)
theorem ky (u : Nat) : ∀ c ∈ Lib.decDigits u, isD c := by
 induction u using Nat.strongRecOn with
 | _ u ih =>
  intro c hc; unfold isD
  by_cases h : u < 10
  ·rw [Lib.decDigits, dif_pos h, List.mem_singleton] at hc; rw [hc, hJ u h]; omega
  ·rw [Lib.decDigits, dif_neg h] at hc; rcases List.mem_append.1 hc with h1 | h1
   ·exact ih (u / 10) (by omega) c h1
   ·rw [List.mem_singleton] at h1; rw [h1, hJ (u % 10) (by omega)]; omega
theorem ql (u : Nat) (t : List UInt8) : Lib.decDigits u ≠ 45 :: t := by
 intro h; have := ky u 45 (by rw [h]; simp); exact absurd this (by decide)
theorem lA : ∀ (k u : Nat), u < 10 ^ (k + 1) → Lib.nDigits u ≤ k + 1
 | 0, u, h => by rw [Lib.nDigits_small (by simpa using h)]; exact Nat.le_refl _
 | k + 1, u, h => by
  by_cases h1 : u < 10
  ·rw [Lib.nDigits_small h1]; omega
  ·rw [Lib.nDigits_big h1]; have := lA k (u / 10) (by rw [Nat.pow_succ] at h; omega); omega
theorem jF (u : Nat) : Lib.decDigits u ≠ [] := by
 intro h; have h1 := Lib.decDigits_length u; have h2 := Lib.nDigits_pos u; rw [h] at h1; simp at h1; omega
theorem ra (u : Nat) : 1 ≤ u → ∀ c r, Lib.decDigits u = c :: r → 49 ≤ c.toNat := by
 induction u using Nat.strongRecOn with
 | _ u ih =>
  intro hu c r he; by_cases h : u < 10
  ·rw [Lib.decDigits, dif_pos h] at he; have := (List.cons.inj he).1; rw [← this, hJ u h]; omega
  ·rw [Lib.decDigits, dif_neg h] at he; obtain ⟨c', r', e'⟩ : ∃ c' r', Lib.decDigits (u / 10) = c' :: r' := by
    cases hd : Lib.decDigits (u / 10) with
    | nil => exact absurd hd (jF _)
    | cons c' r' => exact ⟨c', r', rfl⟩
   have := ih (u / 10) (by omega) (by omega) c' r' e'; rw [e', List.cons_append] at he; rw [← (List.cons.inj he).1]; exact this
theorem qk (u : Nat) : lB (Lib.decDigits u) := by
 refine ⟨jF u, ky u, fun hl => ?_⟩; intro he; have hu : 1 ≤ u := by
  rcases Nat.lt_or_ge u 1 with h | h
  ·obtain rfl : u = 0 := by omega
   rw [Lib.decDigits, dif_pos (by omega)] at hl; simp at hl
  ·exact h
 cases hd : Lib.decDigits u with
 | nil => exact jF u hd
 | cons c r =>
  have := ra u hu c r hd; rw [hd] at he; simp at he
  rw [he] at this; exact absurd this (by decide)
theorem m4 : ∀ (l : List UInt8) (acc : Nat), acc ≤ eD acc l
 | [], _ => Nat.le_refl _
 | c :: l, acc => by
  have := m4 l (acc * 10 + (c.toNat - 48)); rw [eq]; omega
theorem k6 : ∀ (n : Nat) (l : List UInt8), l.length = n → lB l → Lib.decDigits (eD 0 l) = l
 | 0, l, hn, h => absurd (List.length_eq_zero_iff.1 hn) h.1
 | n + 1, l, hn, h => by
  obtain ⟨a, c, rfl⟩ : ∃ a c, l = a ++ [c] := ⟨l.dropLast, l.getLast h.1, (List.dropLast_concat_getLast h.1).symm⟩; have hc := h.2.1 c (by simp); unfold isD at hc
  have hcc : UInt8.ofNat (48 + (c.toNat - 48)) = c := UInt8.toNat_inj.1 (by rw [hJ _ (by omega)]; omega); have ev : eD 0 (a ++ [c]) = eD 0 a * 10 + (c.toNat - 48) := by rw [gR, eq, fM]
  by_cases ha : a = []
  ·subst ha; rw [ev, fM, Nat.zero_mul, Nat.zero_add, Lib.decDigits, dif_pos (by omega), hcc]; rfl
  ·obtain ⟨x, r, rfl⟩ : ∃ x r, a = x :: r := by
    cases a with
    | nil => exact absurd rfl ha
    | cons x r => exact ⟨x, r, rfl⟩
   have hx := h.2.1 x (by simp); unfold isD at hx
   have hx48 : x ≠ 48 := fun e => h.2.2 (by simp) (by simp [e])
   have hx49 : 49 ≤ x.toNat := by
    rcases Nat.lt_or_ge x.toNat 49 with h1 | h1
    ·exact absurd (UInt8.toNat_inj.1 (show x.toNat = (48 : UInt8).toNat by show _ = 48; omega)) hx48
    ·exact h1
   have hge := m4 r (0 * 10 + (x.toNat - 48)); have hv : 1 ≤ eD 0 (x :: r) := by rw [eq]; omega
   have hcan : lB (x :: r) := ⟨by simp, fun y hy => h.2.1 y (List.mem_append_left _ hy), fun _ => by simpa using hx48⟩; have ih := k6 n (x :: r) (by simp at hn ⊢; omega) hcan; rw [ev, Lib.decDigits, dif_neg (by omega), show (eD 0 (x :: r) * 10 + (c.toNat - 48)) / 10 = eD 0 (x :: r) by omega, show (eD 0 (x :: r) * 10 + (c.toNat - 48)) % 10 = c.toNat - 48 by omega, ih, hcc]
theorem nr (u : Nat) : eD 0 (Lib.decDigits u) = u := by
 induction u using Nat.strongRecOn with
 | _ u ih =>
  by_cases h : u < 10
  ·rw [Lib.decDigits, dif_pos h, eq, fM, hJ u h]; omega
  ·rw [Lib.decDigits, dif_neg h, gR, ih (u / 10) (by omega), eq, fM, hJ (u % 10) (by omega)]; omega
theorem kP {s : ByteArray} {u : Nat} : eL s = (u : Int) ↔ u ≤ 999999999 ∧ Lib.decDigits u = s.data.toList := by
 constructor
 ·intro h; unfold eL at h
  split at h
  ·rename_i hc
   have hu : eD 0 s.data.toList = u := by omega
   have hl := mN s.data.toList 0 hc.1.2.1; have hp : 10 ^ s.data.toList.length ≤ 10 ^ 9 := Nat.pow_le_pow_right (by decide) hc.2; have e9 : (10 : Nat) ^ 9 = 1000000000 := by decide
   refine ⟨by omega, ?_⟩; rw [← hu]; exact k6 _ _ rfl hc.1
  ·omega
 ·rintro ⟨h1, h2⟩; have hs : s.size ≤ 9 := by
   have h3 := lA 8 u (by omega); rw [← Lib.decDigits_length, h2] at h3; exact h3
  have hcan := qk u; rw [h2] at hcan; unfold eL
  rw [if_pos ⟨hcan, hs⟩, ← h2, nr]
theorem kD (s : ByteArray) : eL s = -1 ∨ ∃ u : Nat, u ≤ 999999999 ∧ eL s = (u : Int) ∧ Lib.decDigits u = s.data.toList := by
 by_cases h : ∃ u : Nat, eL s = (u : Int)
 ·obtain ⟨u, hu⟩ := h; have := kP.1 hu; exact Or.inr ⟨u, this.1, hu, this.2⟩
 ·refine Or.inl ?_; unfold eL
  split
  ·rename_i hc
   exact absurd ⟨_, show eL s = ((eD 0 s.data.toList : Nat) : Int) by unfold eL; rw [if_pos hc]⟩ h
  ·rfl
theorem ne (s : ByteArray) : 0 < eL s ↔ ∃ u : Nat, 1 ≤ u ∧ u ≤ 999999999 ∧ Lib.decDigits u = s.data.toList := by
 constructor
 ·intro h; rcases kD s with h1 | ⟨u, h1, h2, h3⟩
  ·omega
  ·exact ⟨u, by omega, h1, h3⟩
 ·rintro ⟨u, h0, h1, h2⟩; have := kP.2 (show u ≤ 999999999 ∧ Lib.decDigits u = s.data.toList from ⟨h1, h2⟩); omega
theorem nu {n : Int} (h : n < 0) : Lib.itoa n = 45 :: Lib.decDigits n.natAbs := by unfold Lib.itoa; rw [if_pos h]
theorem mx : ∀ (l : List UInt8) (acc : Nat), (∀ c ∈ l, isD c) → eD acc l < 1844674407370955162 → Lib.parseUint10 acc l = .ok (eD acc l)
 | [], _, _, _ => rfl
 | c :: r, acc, h, hv => by
  have hc := h c (by simp); unfold isD at hc
  rw [eq] at hv; have hg := m4 r (acc * 10 + (c.toNat - 48)); rw [Lib.parseUint10, if_pos hc, if_neg (by omega), if_neg (by omega), mx r _ (fun x hx => h x (List.mem_cons_of_mem _ hx)) hv, eq]
theorem pt (u : Nat) (h : u ≤ 999999999999) : Lib.parseMag (Lib.decDigits u) = .ok u := by
 unfold Lib.parseMag
 rw [if_neg (jF u), mx _ 0 (ky u) (by rw [nr]; omega), nr]
theorem qV (u : Nat) (h : u ≤ 999999999999) : Lib.atoiAll (Lib.decDigits u) = .ok (u : Int) := by
 obtain ⟨c, r, e⟩ : ∃ c r, Lib.decDigits u = c :: r := by
  cases hd : Lib.decDigits u with
  | nil => exact absurd hd (jF _)
  | cons c r => exact ⟨c, r, rfl⟩
 have hc := ky u c (by rw [e]; simp); unfold isD at hc
 have hm := pt u h; rw [e] at hm ⊢; rw [Lib.atoiAll_plain c r (by omega) (by omega), hm]; simp only [Lib.signless, if_neg (show ¬ 9223372036854775808 ≤ u by omega)]
theorem rA (u : Nat) (h : u ≤ 999999999999) : Lib.atoiAll (45 :: Lib.decDigits u) = .ok (-(u : Int)) := by
 rw [Lib.atoiAll_minus, pt u h]; simp only [Lib.signed, if_neg (show ¬ 9223372036854775808 < u by omega)]
theorem qd (n : Int) (h0 : -999999999999 ≤ n) (h1 : n ≤ 999999999999) : Lib.atoiAll (Lib.itoa n) = .ok n := by
 unfold Lib.itoa
 by_cases h : n < 0
 ·rw [if_pos h, rA _ (by omega)]; congr 1; omega
 ·rw [if_neg h, qV _ (by omega)]; congr 1; omega
theorem oA {s : ByteArray} {n : Int} : iB s = (n, true) ↔ -999999999 ≤ n ∧ n ≤ 999999999 ∧ Lib.itoa n = s.data.toList := by
 constructor
 ·intro h; unfold iB at h
  split at h
  ·split at h
   ·rename_i hc; rw [← (Prod.mk.inj h).1]; exact hc
   ·cases (Prod.mk.inj h).2
  ·cases (Prod.mk.inj h).2
 ·rintro ⟨h0, h1, h2⟩; unfold iB
  rw [← h2, qd n (by omega) (by omega)]; simp only [if_pos (show -999999999 ≤ n ∧ n ≤ 999999999 ∧ True from ⟨h0, h1, trivial⟩)]
theorem jQ (s : ByteArray) : (iB s).2 = true ↔ ∃ n : Int, -999999999 ≤ n ∧ n ≤ 999999999 ∧ Lib.itoa n = s.data.toList := by
 constructor
 ·intro h; exact ⟨(iB s).1, oA.1 (by rw [← h])⟩
 ·rintro ⟨n, h⟩; rw [oA.2 h]
theorem oM (s r : ByteArray) (h : s.data.toList = 45 :: r.data.toList) : (iB s).2 = true ↔ 0 < eL r := by
 rw [jQ, ne]; constructor
 ·rintro ⟨n, h0, h1, h2⟩; rw [h] at h2; by_cases hn : n < 0
  ·rw [nu hn] at h2; exact ⟨n.natAbs, by omega, by omega, (List.cons.inj h2).2⟩
  ·rw [nc (by omega)] at h2; exact absurd h2 (ql _ _)
 ·rintro ⟨u, h0, h1, h2⟩; refine ⟨-(u : Int), by omega, by omega, ?_⟩; rw [nu (by omega), h, ← h2]; congr 2; omega
theorem nN (s : ByteArray) : 0 ≤ eL s ↔ ∃ u : Nat, u ≤ 999999999 ∧ Lib.decDigits u = s.data.toList := by
 constructor
 ·intro h; rcases kD s with h1 | ⟨u, h1, h2, h3⟩
  ·omega
  ·exact ⟨u, h1, h3⟩
 ·rintro ⟨u, h1, h2⟩; have := kP.2 (show u ≤ 999999999 ∧ Lib.decDigits u = s.data.toList from ⟨h1, h2⟩); omega
theorem oF (s : ByteArray) (h : ∀ t, s.data.toList = 45 :: t → t = []) : (iB s).2 = true ↔ 0 ≤ eL s := by
 rw [jQ, nN]; constructor
 ·rintro ⟨n, h0, h1, h2⟩; by_cases hn : n < 0
  ·rw [nu hn] at h2; exact absurd (h _ h2.symm) (jF _)
  ·rw [nc (by omega)] at h2; exact ⟨n.toNat, by omega, h2⟩
 ·rintro ⟨u, h1, h2⟩; exact ⟨(u : Int), by omega, by omega, by rw [nc (by omega)]; exact h2⟩
theorem jn (s : ByteArray) (hs : s.size ≤ 1048576) : ∃ v, Ev (fun k => bf.f k s) (v, (iB s).2) := by
 have hlen := fC s; simp only [bf.f]; have pos : (∀ t, s.data.toList = 45 :: t → t = []) → ∃ v, Ev (fun k => bf.j0 k s false) (v, (iB s).2) := by
  intro h; refine ⟨eL s, Ev.step (fun k => bf.j0.eq_2 _ _ _) ?_⟩; simp only [if_neg (show ¬ (false = true) by decide)]; refine Ev.bind (fU s (by omega)) ?_; have e : decide (eL s ≥ 0) = (iB s).2 := by
   rw [Bool.eq_iff_iff, decide_eq_true_eq]; exact (oF s h).symm
  rw [e]; exact Ev.now _
 by_cases h1 : (s.size : Int) > 1
 ·have hb : bt s 0 = ((s.data.toList[0]'(by omega)).toNat : Int) := pF s 0 (by omega); simp only [if_pos h1, if_pos (show 0 < (s.size : Int) by omega), hb]; obtain ⟨x, r, hx⟩ : ∃ x r, s.data.toList = x :: r := by
   cases hd : s.data.toList with
   | nil => rw [hd] at hlen; simp at hlen; omega
   | cons x r => exact ⟨x, r, rfl⟩
  have h0 : s.data.toList[0]'(by omega) = x := by simp [hx]
  rw [h0]; by_cases h45 : (x.toNat : Int) = 45
  ·have e45 : ((x.toNat : Int) == 45) = true := by simpa using h45
   have ex : x = 45 := UInt8.toNat_inj.1 (show _ = 45 by omega); subst ex; have hr : (s.extract 1 s.size).data.toList = r := by
    rw [Lib.extract_data, hx, List.drop_succ_cons, List.drop_zero]; apply List.take_of_length_le
    rw [hx, List.length_cons] at hlen; omega
   have hz : (s.extract 1 s.size).size ≤ 1048576 := by rw [ByteArray.size_extract]; omega
   rw [e45]; refine ⟨wrap64 (-eL (s.extract 1 s.size)), Ev.step (fun k => bf.j0.eq_2 _ _ _) ?_⟩; simp only [if_true, if_pos (show 1 ≤ (s.size : Int) by omega)]; refine Ev.bind (fU _ (by omega)) ?_; have e : decide (eL (s.extract 1 s.size) > 0) = (iB s).2 := by
    rw [Bool.eq_iff_iff, decide_eq_true_eq]; exact (oM s (s.extract 1 s.size) (by rw [hr, hx])).symm
   rw [e]; exact Ev.now _
  ·have e45 : ((x.toNat : Int) == 45) = false := by simpa using h45
   rw [e45]; exact pos (fun t ht => absurd (show (x.toNat : Int) = 45 by rw [hx] at ht; rw [(List.cons.inj ht).1]; rfl) h45)
 ·simp only [if_neg h1]; exact pos (fun t ht => by
   rw [ht, List.length_cons] at hlen; exact List.length_eq_zero_iff.1 (by omega))
def cutT (c : UInt8) (n : Nat) (s : ByteArray) : List ByteArray := (ey c n [] s.data.toList).map mkT
theorem jH (c : UInt8) : ∀ (l : List UInt8) (n : Nat) (acc : List UInt8), l.count c ≤ n → ey c n acc l = ey c (l.count c) acc l
 | [], n, acc, _ => by simp [ey]
 | x :: xs, n, acc, h => by
  by_cases hx : x = c
  ·subst hx; rw [List.count_cons_self] at h ⊢; obtain ⟨m, rfl⟩ : ∃ m, n = m + 1 := ⟨n - 1, by omega⟩; rw [ey, ey, if_pos rfl, if_pos rfl, jH x xs m [] (by omega)]
  ·have e : (x :: xs).count c = xs.count c := List.count_cons_of_ne (by simpa using hx); rw [e] at h ⊢; have h1 := jH c xs n (acc ++ [x]) h; have e0 : ∀ k, ey c k acc (x :: xs) = ey c k (acc ++ [x]) xs := by
    intro k; have := iS c [x] k acc xs (by simpa using fun h => hx h.symm); exact this
   rw [e0, e0, h1]
theorem rX (c : UInt8) (s : ByteArray) : cutT c (s.size + 1) s = ef c s := by
 unfold cutT ef
 have h : s.data.toList.count c ≤ s.data.toList.length := List.count_le_length; rw [fC] at h; rw [jH c _ (s.size + 1) [] (by omega)]
def gF (s : ByteArray) : List ByteArray → List ByteArray
 | [] => [s]
 | x :: xs => if Op.bytesLess x.toList s.toList = true then x :: gF s xs else if x = s then x :: xs else s :: x :: xs
def kw (acc : List ByteArray) (l : List ByteArray) : List ByteArray := l.foldl (fun a s => gF s a) acc
theorem mY (acc : List ByteArray) (s : ByteArray) (l : List ByteArray) : kw acc (s :: l) = kw (gF s acc) l := rfl
theorem jO (s : ByteArray) : ∀ l : List ByteArray, (gF s l).length ≤ l.length + 1
 | [] => by simp [gF]
 | x :: xs => by
  have := jO s xs; unfold gF
  split
  ·simp only [List.length_cons]; omega
  ·split <;> simp
theorem lU (s : ByteArray) (l : List ByteArray) (hn : l.length ≤ 1099511627776) : ∀ (d i : Nat), i + d = l.length → Ev (fun k => bq.l0 k l s (i : Int)) (l.take i ++ gF s (l.drop i)) := by
 intro d; induction d with
 | zero =>
  intro i hi; refine Ev.step (fun k => bq.l0.eq_2 _ _ _ _) ?_; have e1 : l.take i = l := List.take_of_length_le (by omega); have e2 : l.drop i = [] := List.drop_eq_nil_of_le (by omega); simp only [if_neg (show ¬ ((i : Int) < (l.length : Int)) by omega), Option.bind_some, if_pos (show 0 ≤ (i : Int) by omega), if_pos (show (i : Int) ≤ (l.length : Int) by omega), bP, e1, e2, gF, List.nil_append, List.length_nil, Nat.zero_add, if_pos (show l.length < 8796093022208 by omega), List.length_cons, List.length_append, Nat.add_zero, if_pos (show l.length + 1 < 8796093022208 by omega), List.append_nil]; exact Ev.now _
 | succ d ih =>
  intro i hi; have hil : i < l.length := by omega
  have ed : l.drop i = l[i] :: l.drop (i + 1) := cQ l i hil; refine Ev.step (fun k => bq.l0.eq_2 _ _ _ _) ?_; simp only [if_pos (show ((i : Int) < (l.length : Int)) by omega), if_pos (show 0 ≤ (i : Int) by omega), iY _ l i hil, toList_inj, bT i (by omega)]; by_cases h1 : Op.bytesLess l[i].toList s.toList = true
  ·simp only [if_pos h1]; have e : l.take i ++ gF s (l.drop i) = l.take (i + 1) ++ gF s (l.drop (i + 1)) := by
    rw [ed, gF, if_pos h1, List.take_add_one, List.getElem?_eq_getElem hil, List.append_assoc]; rfl
   rw [e]; exact ih (i + 1) (by omega)
  ·simp only [if_neg h1]; by_cases h2 : l[i] = s
   ·simp only [if_pos h2]; have e : l.take i ++ gF s (l.drop i) = l := by rw [ed, gF, if_neg h1, if_pos h2, ← ed, List.take_append_drop]
    rw [e]; exact Ev.now _
   ·have lt : (l.take i).length = i := by rw [List.length_take]; omega
    have ld : (l.drop i).length = l.length - i := List.length_drop; simp only [if_neg h2, Option.bind_some, if_pos (show (i : Int) ≤ (l.length : Int) by omega), bP, List.nil_append, List.length_nil, Nat.zero_add, lt, if_pos (show i < 8796093022208 by omega), List.length_cons, List.length_append, Nat.add_zero, if_pos (show i + 1 < 8796093022208 by omega), ld, if_pos (show i + 1 + (l.length - i) < 8796093022208 by omega)]; have e : l.take i ++ gF s (l.drop i) = l.take i ++ [s] ++ l.drop i := by rw [ed, gF, if_neg h1, if_neg h2, List.append_assoc]; rfl
    rw [e]; exact Ev.now _
theorem mt (s : ByteArray) (l : List ByteArray) (hn : l.length ≤ 1099511627776) : Ev (fun k => bq.f k l s) (gF s l) := by
 have := lU s l hn l.length 0 (by omega); simpa [bq.f] using this
open Classical in
theorem kV (L : List ByteArray) (hL : L.length ≤ 1048577) (hx : ∀ x ∈ L, x.size ≤ 1048576) : ∀ (d i : Nat) (acc : List ByteArray), i + d = L.length → acc.length ≤ i →
  Ev (fun k => bu.l0 k acc L (i : Int)) (if gn (L.drop i) then (kw acc (L.drop i), decide (L.length ≤ 4)) else ([], false)) := by
 intro d; induction d with
 | zero =>
  intro i acc hi ha; refine Ev.step (fun k => bu.l0.eq_2 _ _ _ _) ?_; simp only [if_neg (show ¬ ((i : Int) < (L.length : Int)) by omega)]; rw [List.drop_eq_nil_of_le (by omega), if_pos (show gn [] from fun x hx => by simp at hx)]; have e : decide ((L.length : Int) ≤ 4) = decide (L.length ≤ 4) := decide_eq_decide.2 ⟨fun h => by omega, fun h => by omega⟩; rw [e]; exact Ev.now _
 | succ d ih =>
  intro i acc hi ha; have hil : i < L.length := by omega
  have hxi := hx L[i] (List.getElem_mem _); have hl2 := jO L[i] acc; refine Ev.step (fun k => bu.l0.eq_2 _ _ _ _) ?_; simp only [if_pos (show ((i : Int) < (L.length : Int)) by omega), if_pos (show 0 ≤ (i : Int) by omega), iY _ L i hil, bT i (by omega)]; refine Ev.bind (eY L[i] (by omega)) ?_; rw [cQ L i hil]; cases hnm : eU (am L[i]) with
  | false =>
   simp only [if_neg (show ¬ (false = true) by decide)]; rw [if_neg (fun h => by have := (eP.1 h).1; rw [hnm] at this; cases this)]; exact Ev.now _
  | true =>
   simp only [if_true]; refine Ev.bind (mt L[i] acc (by omega)) ?_; have h := ih (i + 1) (gF L[i] acc) (by omega) (by omega); rw [mY]; by_cases hp : gn (L.drop (i + 1))
   ·rw [if_pos hp] at h; rw [if_pos (eP.2 ⟨hnm, hp⟩)]; exact h
   ·rw [if_neg hp] at h; rw [if_neg (fun h2 => hp (eP.1 h2).2)]; exact h
open Classical in
noncomputable def ja (s : ByteArray) : List ByteArray × Bool := if gn (ef 44 s) then (kw [] (ef 44 s), decide ((ef 44 s).length ≤ 4)) else ([], false)
theorem jN (s : ByteArray) (a b : Nat) : s.extract a b = mkT ((s.data.toList.drop a).take (b - a)) := by
 rw [← nx (s.extract a b), Lib.extract_data]
theorem mI (l : List UInt8) {f i : Nat} (hf : f ≤ i) : (l.drop f).take (i - f) ++ l.drop i = l.drop f := by
 have := List.take_append_drop (i - f) (l.drop f); rw [List.drop_drop, show f + (i - f) = i by omega] at this; exact this
theorem qU {l : List UInt8} {f i : Nat} (hf : f ≤ i) (hi : i < l.length) : (l.drop f).take (i + 1 - f) = (l.drop f).take (i - f) ++ [l[i]] := by
 have e : i + 1 - f = (i - f) + 1 := by omega
 rw [e, List.take_add_one, List.getElem?_drop, show f + (i - f) = i by omega, List.getElem?_eq_getElem hi]; rfl
theorem pZ (a b : UInt8) : ((a.toNat : Int) = (b.toNat : Int)) ↔ a = b := ⟨fun h => UInt8.toNat_inj.1 (by omega), fun h => by rw [h]⟩
theorem rI (c : UInt8) (s : ByteArray) (hs : s.size ≤ 1099511627776) (most : Nat) : ∀ (d i f n : Nat) (out : List ByteArray), i + d = s.size → f ≤ i → out.length + n = most → out.length ≤ i →
  Ev (fun k => bl.l0 k s (c.toNat : Int) (most : Int) out (f : Int) (i : Int)) (out ++ (ey c n ((s.data.toList.drop f).take (i - f)) (s.data.toList.drop i)).map mkT) := by
 have hlen := fC s; have fin : ∀ (i f : Nat) (out : List ByteArray), f ≤ i → i ≤ s.size → out.length ≤ i → ∀ k, bl.j1 (k + 1) s (c.toNat : Int) (most : Int) out (f : Int) (i : Int) false = some (out ++ [mkT (s.data.toList.drop f)]) := by
  intro i f out hf hi ho k; have e := jN s f s.size; rw [List.take_of_length_le (by rw [List.length_drop]; omega)] at e; rw [bl.j1.eq_2]; simp only [if_neg (show ¬ (false = true) by decide), if_pos (show 0 ≤ (f : Int) by omega), if_pos (show (f : Int) ≤ (s.size : Int) by omega), if_pos (show out.length < 8796093022208 by omega), bP, e]
 have finE : ∀ (i f : Nat) (out : List ByteArray), f ≤ i → i ≤ s.size → out.length ≤ i → Ev (fun k => bl.j1 k s (c.toNat : Int) (most : Int) out (f : Int) (i : Int) false) (out ++ [mkT (s.data.toList.drop f)]) := by
  intro i f out hf hi ho; refine ⟨1, fun k hk => ?_⟩; obtain ⟨k, rfl⟩ : ∃ m, k = m + 1 := ⟨k - 1, by omega⟩; exact fin i f out hf hi ho k
 intro d; induction d with
 | zero =>
  intro i f n out hi hf hn ho; refine Ev.step (fun k => bl.l0.eq_2 _ _ _ _ _ _ _) ?_; simp only [if_neg (show ¬ ((i : Int) < (s.size : Int)) by omega)]; have e := mI s.data.toList hf; have e0 : s.data.toList.drop i = [] := List.drop_eq_nil_of_le (by omega); rw [e0, List.append_nil] at e; have hc : ey c n ((s.data.toList.drop f).take (i - f)) (s.data.toList.drop i) = [s.data.toList.drop f] := by
   rw [e0, e]; cases n <;> rfl
  rw [hc]; exact finE i f out hf (by omega) ho
 | succ d ih =>
  intro i f n out hi hf hn ho; refine Ev.step (fun k => bl.l0.eq_2 _ _ _ _ _ _ _) ?_; simp only [if_pos (show ((i : Int) < (s.size : Int)) by omega)]; cases n with
  | zero =>
   rw [decide_eq_false (show ¬ (out.length : Int) < (most : Int) by omega), ia, mI _ hf]; exact finE i f out hf (by omega) ho
  | succ n =>
   rw [decide_eq_true (show (out.length : Int) < (most : Int) by omega)]; refine Ev.step (fun k => bl.j1.eq_2 _ _ _ _ _ _ _ _) ?_; have hil : i < s.data.toList.length := by omega
   have ed : s.data.toList.drop i = s.data.toList[i] :: s.data.toList.drop (i + 1) := List.drop_eq_getElem_cons hil; rw [ed]; simp only [if_true, if_pos (show 0 ≤ (i : Int) by omega), if_pos (show ((i : Int) < (s.size : Int)) by omega), pF s i hil, pZ, bT i (by omega)]; by_cases hb : s.data.toList[i] = c
   ·have e := jN s f i; rw [ey, if_pos hb]; simp only [if_pos hb, if_pos (show 0 ≤ (f : Int) by omega), if_pos (show (f : Int) ≤ (i : Int) by omega), if_pos (show (i : Int) ≤ (s.size : Int) by omega), if_pos (show out.length < 8796093022208 by omega), bP, e]; have h := ih (i + 1) (i + 1) n (out ++ [mkT ((s.data.toList.drop f).take (i - f))]) (by omega) (Nat.le_refl _) (by simp; omega) (by simp; omega); rw [Nat.sub_self, List.take_zero, List.append_assoc] at h; exact h
   ·rw [ey, if_neg hb]; simp only [if_neg hb]; have h := ih (i + 1) f (n + 1) out (by omega) (by omega) hn (by omega); rw [qU hf hil] at h; exact h
theorem mj (c : UInt8) (n : Nat) (s : ByteArray) (hs : s.size ≤ 1099511627776) : Ev (fun k => bl.f k s (c.toNat : Int) (n : Int)) (cutT c n s) := by
 simp only [bl.f, cutT]; have := rI c s hs n s.size 0 0 n [] (by omega) (Nat.le_refl _) (by simp) (by simp); simpa using this
theorem k4 (s : ByteArray) (hs : s.size ≤ 1048576) : Ev (fun k => bu.f k s) (ja s) := by
 have hlen := il 44 s; simp only [bu.f, bT s.size (by omega)]; have h1 := mj 44 (s.size + 1) s (by omega); rw [rX] at h1; refine Ev.bind h1 ?_; have h := kV (ef 44 s) (by omega) (fun x hx => by have := jT hx; omega) (ef 44 s).length 0 [] (by omega) (by simp); rw [List.drop_zero] at h; exact h
theorem oD (s : ByteArray) : (ja s).2 = true ↔ lh s := by
 unfold ja lh
 split
 ·rename_i h
  simp only [decide_eq_true_eq]; exact ⟨fun h2 => ⟨h, h2⟩, fun h2 => h2.2⟩
 ·rename_i h
  exact ⟨(fun h2 => by cases h2), fun h2 => absurd h2.1 h⟩
open Classical in
theorem kR (a : ByteArray) (b c : Int) (s : ByteArray) (hs : s.size ≤ 1048576) : Ev (fun k => ej.f k a b c s) (decide (eu s 60 = true ∧ j3 b s)) := by
 obtain ⟨v, hv⟩ := jn s hs; have ht := oD s; simp only [ej.f]; refine Ev.bind hv ?_; refine Ev.bind (k4 s hs) ?_; refine Ev.bind (gG s (by omega)) ?_; unfold j3
 cases hp : eu s 60 with
 | false => simp only [if_neg (show ¬ (false = true) by decide)]; exact bj (fun h => by cases h.1) (Ev.now _)
 | true =>
  simp only [if_true]; have third : Ev (fun _ : Nat => some ((ja s).2)) (decide (lh s)) := by
   have e : (ja s).2 = decide (lh s) := by rw [Bool.eq_iff_iff, decide_eq_true_eq]; exact ht
   rw [e]; exact Ev.now _
  by_cases h1 : b = 1
  ·simp only [if_pos h1]; exact eC ⟨(by first | trivial | rfl), Or.inl h1⟩ (Ev.now _)
  ·simp only [if_neg h1]; by_cases h2 : b = 2
   ·simp only [if_pos h2]; cases hn : (iB s).2 with
    | true => simp only [if_true]; exact eC ⟨(by first | trivial | rfl), Or.inr (Or.inl ⟨h2, (by first | trivial | rfl)⟩)⟩ (Ev.now _)
    | false =>
     simp only [if_neg (show ¬ (false = true) by decide), if_neg (show ¬ b = 3 by omega)]; refine bj (fun h => ?_) (Ev.now _); rcases h.2 with h | ⟨_, h⟩ | ⟨h, _⟩
     ·exact h1 h
     ·first | exact absurd h (by simp) | cases h
     ·omega
   ·simp only [if_neg h2]; by_cases h3 : b = 3
    ·simp only [if_pos h3]; refine cO ?_ third; exact ⟨fun h => ⟨(by first | trivial | rfl), Or.inr (Or.inr ⟨h3, h⟩)⟩, fun h => by
      rcases h.2 with h | ⟨h, _⟩ | ⟨_, h⟩
      ·exact absurd h h1
      ·exact absurd h h2
      ·exact h⟩
    ·simp only [if_neg h3]; refine bj (fun h => ?_) (Ev.now _); rcases h.2 with h | ⟨h, _⟩ | ⟨h, _⟩
     ·exact h1 h
     ·exact h2 h
     ·exact h3 h
open Classical in
theorem jx (l : List S92) (hn : l.length ≤ 1048577) (hs : ∀ x ∈ l, x.f0.size ≤ 1048576) : ∀ (d i : Nat), i + d = l.length → Ev (fun k => ax.l0 k l (i : Int)) (decide (dt l i)) := by
 intro d; induction d with
 | zero =>
  intro i hi; refine Ev.step (fun k => ax.l0.eq_2 _ _ _) ?_; simp only [if_neg (show ¬ ((i : Int) < (l.length : Int)) by omega), dO, Option.bind_some]; refine cN (gX (by omega)).symm ?_; refine gj fun _ => ?_
  congr 1; exact decide_eq_decide.2 (by omega)
 | succ d ih =>
  intro i hi; have hst := gx (l := l) (j := i) (by omega); have hsz := hs l[i] (List.getElem_mem _); refine Ev.step (fun k => ax.l0.eq_2 _ _ _) ?_; simp only [if_pos (show ((i : Int) < (l.length : Int)) by omega), if_pos (show 0 ≤ (i : Int) by omega), en l i (by omega), dO, Option.bind_some]; have hj2 : ∀ (t o : Bool), ((t || o) = true ↔ f8 l[i]) → Ev (fun k => ax.j2 k l (i : Int) t o l[i].f0 l[i].f1 l[i].f2) (decide (dt l i)) := by
   intro t o hto; refine Ev.step (fun k => ax.j2.eq_2 _ _ _ _ _ _ _ _) ?_; refine Ev.bind (eY l[i].f0 (by omega)) ?_; cases hnm : eU (am l[i].f0) with
   | false =>
    simp only [if_neg (show ¬ (false = true) by decide)]; refine cA (fun h => ?_) (Ev.now _); have := gh.2 (hst.1 h).1.1; rw [hnm] at this; cases this
   | true =>
    simp only [if_true]; obtain ⟨r, hr, hq⟩ := fp l l[i].f0 (by omega); refine Ev.bind hr ?_; by_cases he : r = (i : Int)
    ·have hfirst : ∀ m (hm : m < i), l[m].f0 ≠ l[i].f0 := by
      rcases hq with hq | ⟨j, hj, h1, h2, h3⟩
      ·omega
      ·obtain rfl : j = i := by omega
       exact h3
     simp only [if_pos he, bT i (by omega)]; have hnext := ih (i + 1) (by omega); by_cases hp : f8 l[i]
     ·have hb := hto.2 hp; have hgoal : Ev (fun k => ax.l0 k l ((i + 1 : Nat) : Int)) (decide (dt l i)) := cN (hst.trans ⟨fun h => h.2, fun h => ⟨⟨gh.1 hnm, hp, hfirst⟩, h⟩⟩).symm hnext; cases t with
      | true => simp only [if_true]; exact hgoal
      | false =>
       have ho : o = true := by simpa using hb
       simp only [if_neg (show ¬ (false = true) by decide), ho, if_true]; exact hgoal
     ·have hb : (t || o) = false := by rw [Bool.eq_false_iff]; exact fun h => hp (hto.1 h)
      have ht : t = false := by cases t; rfl; simp at hb
      have ho : o = false := by cases o; rfl; simp at hb
      simp only [ht, ho, if_neg (show ¬ (false = true) by decide)]; exact cA (fun h => hp (hst.1 h).1.2.1) (Ev.now _)
    ·simp only [if_neg he]; refine cA (fun h => ?_) (Ev.now _); have h4 := (hst.1 h).1.2.2; rcases hq with ⟨h1, h2⟩ | ⟨j, hj, h1, h2, h3⟩
     ·exact h2 l[i] (List.getElem_mem _) rfl
     ·rcases Nat.lt_trichotomy j i with h5 | h5 | h5
      ·exact h4 j h5 h2
      ·exact he (by omega)
      ·exact h3 i h5 rfl
  have hj1 : ∀ (t : Bool), (t = true ↔ (l[i].f1 = 1 ∧ 1 ≤ l[i].f2 ∧ l[i].f2 ≤ 9)) → Ev (fun k => ax.j1 k l (i : Int) t l[i].f0 l[i].f1 l[i].f2) (decide (dt l i)) := by
   intro t ht; refine Ev.step (fun k => ax.j1.eq_2 _ _ _ _ _ _ _) ?_; simp only [dO, Option.bind_some, decide_eq_true_eq]; by_cases h2 : 2 ≤ l[i].f1 ∧ l[i].f1 ≤ 3
   ·simp only [if_pos h2]; refine hj2 t _ ?_; unfold f8
    rw [Bool.or_eq_true, ht, beq_iff_eq]; constructor
    ·rintro (h | h)
     ·exact .inl h
     ·exact .inr ⟨h2.1, h2.2, h⟩
    ·rintro (h | h)
     ·exact .inl h
     ·exact .inr h.2.2
   ·simp only [if_neg h2]; refine hj2 t false ?_; unfold f8
    rw [Bool.or_false, ht]; exact ⟨.inl, fun h => h.resolve_right (fun h3 => h2 ⟨h3.1, h3.2.1⟩)⟩
  by_cases h1 : l[i].f1 = 1
  ·simp only [if_pos h1]; refine hj1 _ ?_; rw [decide_eq_true_eq]; exact ⟨fun h => ⟨h1, h⟩, fun h => h.2⟩
  ·simp only [if_neg h1]; exact hj1 false ⟨(fun h => by cases h), fun h => absurd h.1 h1⟩
theorem gl (l : List S92) (hn : l.length ≤ 1048577) (hs : ∀ x ∈ l, x.f0.size ≤ 1048576) : Ev (fun k => ax.f k l) (fh l) := jx l hn hs l.length 0 (by omega)
open Classical in
theorem l8 (F : List S92) (hF : F.length ≤ 1048576) (hFs : ∀ x ∈ F, x.f0.size ≤ 1048576) (key : ByteArray) (l : List S86) (hk : key.size ≤ 1048576) (hn : l.length ≤ 1048576) (hs : ∀ x ∈ l, x.f0.size ≤ 1048576 ∧ x.f1.size ≤ 1048576) : ∀ (d i : Nat), i + d = l.length →
  Ev (fun k => bd.l0 k F (i : Int) key l) (decide ((∀ c ∈ l.drop i, eu c.f1 60 = true ∧ j3 (ez F c.f0) c.f1) ∧ fh F = true ∧ j6 key l = true)) := by
 intro d; induction d with
 | zero =>
  intro i hi; refine Ev.step (fun k => bd.l0.eq_2 _ _ _ _ _) ?_; simp only [if_neg (show ¬ ((i : Int) < (l.length : Int)) by omega)]; rw [List.drop_eq_nil_of_le (by omega)]; refine Ev.bind (gl F (by omega) hFs) ?_; cases hf : fh F with
  | false => simp only [if_neg (show ¬ (false = true) by decide)]; exact bj (fun h => by cases h.2.1) (Ev.now _)
  | true =>
   simp only [if_true]; refine Ev.bind (lx key l hk hn hs) ?_; cases hm : j6 key l with
   | false => exact bj (fun h => by cases h.2.2) (Ev.now _)
   | true => exact eC ⟨fun c hc => by simp at hc, (by first | trivial | rfl), (by first | trivial | rfl)⟩ (Ev.now _)
 | succ d ih =>
  intro i hi; have hil : i < l.length := by omega
  have hsz := hs l[i] (List.getElem_mem _); obtain ⟨r, hr, hq⟩ := fp F l[i].f0 (by omega); refine Ev.step (fun k => bd.l0.eq_2 _ _ _ _ _) ?_; rw [cQ l i hil]; simp only [if_pos (show ((i : Int) < (l.length : Int)) by omega), if_pos (show 0 ≤ (i : Int) by omega), fi l i hil, bT i (by omega)]; refine Ev.bind hr ?_; rcases hq with ⟨rfl, hno⟩ | ⟨j, hj, rfl, hj2, hjb⟩
  ·simp only [if_pos (show (-1 : Int) < 0 by decide)]; refine bj (fun h => ?_) (Ev.now _); have h1 := (h.1 l[i] (List.mem_cons_self ..)).2; unfold ez at h1
   rw [gm hno] at h1; rcases h1 with h1 | ⟨h1, _⟩ | ⟨h1, _⟩ <;> exact absurd h1 (by decide)
  ·have hk2 : ez F l[i].f0 = F[j].f1 := by unfold ez; rw [gq hj hj2 hjb]
   simp only [if_neg (show ¬ (j : Int) < 0 by omega), if_pos (show 0 ≤ (j : Int) by omega), if_pos (show (j : Int) < (F.length : Int) by omega), en F j hj]; refine Ev.bind (kR _ _ _ l[i].f1 hsz.2) ?_; by_cases hc : eu l[i].f1 60 = true ∧ j3 F[j].f1 l[i].f1
   ·rw [decide_eq_true hc]; simp only [if_true]; refine cO ⟨fun h => ⟨fun c hcm => ?_, h.2⟩, fun h => ⟨fun c hcm => h.1 c (List.mem_cons_of_mem _ hcm), h.2⟩⟩ (ih (i + 1) (by omega)); rcases List.mem_cons.1 hcm with rfl | hcm
    ·rw [hk2]; exact hc
    ·exact h.1 c hcm
   ·rw [decide_eq_false hc]; simp only [if_neg (show ¬ (false = true) by decide)]; refine bj (fun h => hc ?_) (Ev.now _); have := h.1 l[i] (List.mem_cons_self ..); rw [hk2] at this; exact this
open Classical in
theorem lW (F : List S92) (hF : F.length ≤ 1048576) (hFs : ∀ x ∈ F, x.f0.size ≤ 1048576) (key : ByteArray) (l : List S86) (hk : key.size ≤ 1048576) (hn : l.length ≤ 1048576) (hs : ∀ x ∈ l, x.f0.size ≤ 1048576 ∧ x.f1.size ≤ 1048576) : Ev (fun k => bd.f k F key l) (gI F key l) := by
 simp only [bd.f, gI]; have h := l8 F hF hFs key l hk hn hs l.length 0 (by omega); rw [List.drop_zero] at h; refine cO ?_ h; unfold jG
 exact ⟨fun h => ⟨h.2.1, h.2.2, fun c hc => (h.1 c hc).2⟩, fun h => ⟨fun c hc => ⟨((lc h.2.1).1 c hc).2, h.2.2 c hc⟩, h.1, h.2.1⟩⟩
theorem ry (R : List S46) (hR : R.length ≤ 1099511627776) (key : ByteArray) : Ev (fun k => ce.f k R key) (d8 key 0 R) := by
 have main : ∀ (d i : Nat), i + d = R.length → Ev (fun k => ce.l0 k R key (i : Int)) (d8 key i (R.drop i)) := by
  intro d; induction d with
  | zero =>
   intro i hi; refine Ev.step (fun k => ce.l0.eq_2 _ _ _ _) ?_; simp only [if_neg (show ¬ ((i : Int) < (R.length : Int)) by omega)]; rw [List.drop_eq_nil_of_le (by omega), d8]; exact Ev.now _
  | succ d ih =>
   intro i hi; have hil : i < R.length := by omega
   refine Ev.step (fun k => ce.l0.eq_2 _ _ _ _) ?_; rw [cQ R i hil, d8]; simp only [if_pos (show ((i : Int) < (R.length : Int)) by omega), if_pos (show (0 : Int) ≤ (i : Int) by omega), iQ R i hil, bT i (by omega), beq_iff_eq]; by_cases h : R[i].f1.f0.toList = key.toList
   ·simp only [if_pos h]; exact Ev.now _
   ·simp only [if_neg h]; exact ih (i + 1) (by omega)
 have := main R.length 0 (by omega); simpa [ce.f] using this
open Classical in
theorem qx (a b : List Int) (ha : a.length ≤ 1099511627776) : Ev (fun k => cl.f k a b) (decide (a = b)) := by
 simp only [cl.f]; by_cases hl : a.length = b.length
 ·simp only [if_pos (show (a.length : Int) = (b.length : Int) by omega)]; have main : ∀ (d i : Nat), i + d = a.length → Ev (fun k => cl.l0 k a b (i : Int)) (decide (a.drop i = b.drop i)) := by
   intro d; induction d with
   | zero =>
    intro i hi; refine Ev.step (fun k => cl.l0.eq_2 _ _ _ _) ?_; simp only [if_neg (show ¬ ((i : Int) < (a.length : Int)) by omega)]; rw [List.drop_eq_nil_of_le (by omega), List.drop_eq_nil_of_le (by omega)]; exact eC rfl (Ev.now _)
   | succ d ih =>
    intro i hi; have hia : i < a.length := by omega
    have hib : i < b.length := by omega
    refine Ev.step (fun k => cl.l0.eq_2 _ _ _ _) ?_; simp only [if_pos (show ((i : Int) < (a.length : Int)) by omega), if_pos (show (0 : Int) ≤ (i : Int) by omega), if_pos (show ((i : Int) < (b.length : Int)) by omega), iF a i hia, iF b i hib, bT i (by omega)]; by_cases h : a[i] = b[i]
    ·simp only [if_pos h]; exact cO ⟨fun h2 => (ct hia hib).2 ⟨h, h2⟩, fun h2 => ((ct hia hib).1 h2).2⟩ (ih (i + 1) (by omega))
    ·simp only [if_neg h]; exact bj (fun h2 => h ((ct hia hib).1 h2).1) (Ev.now _)
  have := main a.length 0 (by omega); simpa using this
 ·simp only [if_neg (show ¬ (a.length : Int) = (b.length : Int) by omega)]; exact bj (fun h => hl (by rw [h])) (Ev.now _)
open Classical in
theorem iN : ∀ (a b : List S50), a.length = b.length → (∀ p ∈ a, p.f1.length ≤ 1099511627776) → Ev (fun k => aN.ps k a b) (decide (a = b))
 | [], [], _, _ => eC rfl (gj (fun k => by rw [aN.ps]; intro _ _ _ _ h; cases h))
 | p :: a, q :: b, hl, hs => by
  have ih := iN a b (by simpa using hl) (fun x hx => hs x (List.mem_cons_of_mem _ hx)); have hi := qx p.f1 q.f1 (hs p (by simp)); simp only [aN.ps]; by_cases h0 : p.f0 = q.f0
  ·simp only [if_pos h0]; refine Ev.bind hi ?_; by_cases h1 : p.f1 = q.f1
   ·rw [decide_eq_true h1]; simp only [if_true]; exact cO ⟨fun h => by rw [h, nh.2 ⟨h0, h1⟩], fun h => (List.cons.inj h).2⟩ ih
   ·rw [decide_eq_false h1]; simp only [if_neg (show ¬ (false = true) by decide)]; exact bj (fun h => h1 (by rw [(List.cons.inj h).1])) (Ev.now _)
  ·simp only [if_neg h0]; exact bj (fun h => h0 (by rw [(List.cons.inj h).1])) (Ev.now _)
 | [], _ :: _, h, _ => by simp at h
 | _ :: _, [], h, _ => by simp at h
open Classical in
theorem iO : ∀ (a b : List S76), a.length = b.length → (∀ e ∈ a, ∀ p ∈ e.f2, p.f1.length ≤ 1099511627776) → Ev (fun k => aN.es k a b) (decide (a = b))
 | [], [], _, _ => eC rfl (gj (fun k => by rw [aN.es]; intro _ _ _ _ h; cases h))
 | p :: a, q :: b, hl, hs => by
  have ih := iO a b (by simpa using hl) (fun x hx => hs x (List.mem_cons_of_mem _ hx)); simp only [aN.es, toList_inj]; by_cases h0 : p.f0 = q.f0
  ·simp only [if_pos h0]; by_cases h1 : p.f1 = q.f1
   ·simp only [if_pos h1]; by_cases h2 : p.f2.length = q.f2.length
    ·simp only [if_pos h2]; refine Ev.bind (iN p.f2 q.f2 h2 (hs p (by simp))) ?_; by_cases h3 : p.f2 = q.f2
     ·rw [decide_eq_true h3]; simp only [if_true]; exact cO ⟨fun h => by rw [h, kO.2 ⟨h0, h1, h3⟩], fun h => (List.cons.inj h).2⟩ ih
     ·rw [decide_eq_false h3]; simp only [if_neg (show ¬ (false = true) by decide)]; exact bj (fun h => h3 (by rw [(List.cons.inj h).1])) (Ev.now _)
    ·simp only [if_neg h2]; exact bj (fun h => h2 (by rw [(List.cons.inj h).1])) (Ev.now _)
   ·simp only [if_neg h1]; exact bj (fun h => h1 (by rw [(List.cons.inj h).1])) (Ev.now _)
  ·simp only [if_neg h0]; exact bj (fun h => h0 (by rw [(List.cons.inj h).1])) (Ev.now _)
 | [], _ :: _, h, _ => by simp at h
 | _ :: _, [], h, _ => by simp at h
open Classical in
theorem lv (a b : List S76) (hs : ∀ e ∈ a, ∀ p ∈ e.f2, p.f1.length ≤ 1099511627776) : Ev (fun k => aN.f k a b) (decide (a = b)) := by
 simp only [aN.f]; by_cases hl : a.length = b.length
 ·simp only [if_pos hl]; exact iO a b hl hs
 ·simp only [if_neg hl]; exact bj (fun h => hl (by rw [h])) (Ev.now _)
open Classical in
theorem km {F : List S92} {R : List S46} {E : List S76} (hz : f3 F R E) (n : Int) : ∀ (d i : Nat), i + d = R.length → (∀ (j : Nat) (h : j < R.length), j < i → n9 F R n j h) → Ev (fun k => ao.l0 k (i : Int) F R E n) (decide (dn F R n i ∧ ik F R E n)) := by
 have hr := hz.r; intro d; induction d with
 | zero =>
  intro i hi hprev; have hall : dn F R n 0 := fun j hj _ => hprev j hj (by omega)
  have hend : dn F R n i := fun j hj hij => by omega
  refine Ev.step (fun k => ao.l0.eq_2 _ _ _ _ _ _) ?_; simp only [if_neg (show ¬ ((i : Int) < (R.length : Int)) by omega)]; refine Ev.bind (gl F (by have := hz.f; omega) hz.fs) ?_; cases hf : fh F with
  | false => simp only [if_neg (show ¬ (false = true) by decide)]; exact bj (fun h => by have := h.2.1; rw [hf] at this; cases this) (Ev.now _)
  | true =>
   simp only [if_true]; by_cases h8 : R.length ≤ 8
   ·simp only [if_pos (show ((R.length : Int) ≤ 8) by omega), dO, Option.bind_some]; by_cases hn : 0 ≤ n ∧ n ≤ 999999999
    ·simp only [decide_eq_true hn, if_true]; obtain ⟨L, h1, h2, h3⟩ := lz F hz.f R (jm hall) h8; refine Ev.bind h2 ?_; refine Ev.bind (lv L E (fun e he p hp => by have := ((h3.2 e he).2).2 p hp; omega)) ?_; refine cO ⟨fun h => ⟨hend, hf, h8, hn, by rw [← h]; exact h2⟩, fun h => jp h2 h.2.2.2.2⟩ (Ev.now (decide (L = E)))
    ·simp only [decide_eq_false hn, if_neg (show ¬ (false = true) by decide)]; exact bj (fun h => hn h.2.2.2.1) (Ev.now _)
   ·simp only [if_neg (show ¬ ((R.length : Int) ≤ 8) by omega)]; exact bj (fun h => h8 h.2.2.1) (Ev.now _)
 | succ d ih =>
  intro i hi hprev; have hil : i < R.length := by omega
  have hs := hz.rs _ (List.getElem_mem hil); have next : n9 F R n i hil → Ev (fun k => ao.l0 k ((i + 1 : Nat) : Int) F R E n) (decide (dn F R n i ∧ ik F R E n)) := fun hp =>
   cO ⟨fun h => ⟨(dT hil).2 ⟨hp, h.1⟩, h.2⟩, fun h => ⟨((dT hil).1 h.1).2, h.2⟩⟩ (ih (i + 1) (by omega) (fun j hj hji => by
    rcases Nat.lt_or_ge j i with hlt | hge
    ·exact hprev j hj hlt
    ·obtain rfl : j = i := by omega
     exact hp))
  have stop : ¬ n9 F R n i hil → Ev (fun _ : Nat => some false) (decide (dn F R n i ∧ ik F R E n)) := fun hp => bj (fun h => hp ((dT hil).1 h.1).1) (Ev.now _)
  refine Ev.step (fun k => ao.l0.eq_2 _ _ _ _ _ _) ?_; simp only [if_pos (show ((i : Int) < (R.length : Int)) by omega), if_pos (show (0 : Int) ≤ (i : Int) by omega), iQ R i hil, bT i (by omega)]; refine Ev.bind (lW F hz.f hz.fs R[i].f1.f0 R[i].f1.f1 hs.1 hs.2.1 hs.2.2) ?_; cases hd : gI F R[i].f1.f0 R[i].f1.f1 with
  | false => simp only [if_neg (show ¬ (false = true) by decide)]; exact stop (fun h => by have := h.1; rw [hd] at this; cases this)
  | true =>
   simp only [if_true]; refine Ev.bind (ry R (by omega) R[i].f1.f0) ?_; by_cases hk : d8 R[i].f1.f0 0 R = (i : Int)
   ·simp only [if_pos hk, dO, Option.bind_some]; by_cases hin : 0 ≤ R[i].f0 ∧ R[i].f0 ≤ wrap64 (n - 1)
    ·simp only [decide_eq_true hin, if_true]; by_cases h0 : 0 < i
     ·obtain ⟨m, rfl⟩ : ∃ m, i = m + 1 := ⟨i - 1, by omega⟩; simp only [if_pos (show ((m + 1 : Nat) : Int) > 0 by omega), wpred m (by omega), if_pos (show (0 : Int) ≤ (m : Int) by omega), if_pos (show ((m : Int) < (R.length : Int)) by omega), iQ R m (by omega)]; by_cases ho : R[m].f0 ≥ R[m + 1].f0
      ·simp only [if_pos ho]; exact stop (fun h => by have h2 : R[m].f0 < R[m + 1].f0 := h.2.2.2 h0; omega)
      ·simp only [if_neg ho]; exact next ⟨hd, hk, hin, fun _ => by show R[m].f0 < R[m + 1].f0; omega⟩
     ·simp only [if_neg (show ¬ ((i : Int) > 0) by omega)]; exact next ⟨hd, hk, hin, fun h => absurd h h0⟩
    ·simp only [decide_eq_false hin, if_neg (show ¬ (false = true) by decide)]; exact stop (fun h => hin h.2.2.1)
   ·simp only [if_neg hk]; exact stop (fun h => hk h.2.1)
theorem j8 {F : List S92} {R : List S46} {E : List S76} (hz : f3 F R E) (n : Int) : Ev (fun k => ao.f k F R E n) (gt F R E n) := by
 have := km hz n R.length 0 (by omega) (fun j hj h => by omega); simpa [ao.f, gt] using this
theorem qB (l : List S76) (p : ByteArray × ByteArray) (hs : fZ l) (hn : l.length ≤ 1099511627776) : ∀ (d i : Nat), i + d = l.length → (∀ (j : Nat) (h : j < l.length), j < i → ltP (ck l[j]) p) →
  ∃ (j : Nat) (b : Bool), Ev (fun k => aW.l0 k l p.1 p.2 (i : Int)) ((j : Int), b) ∧ ((b = true ∧ ∃ h : j < l.length, ck l[j] = p) ∨ (b = false ∧ ∀ e ∈ l, ck e ≠ p)) := by
 intro d; induction d with
 | zero =>
  intro i hi hb; refine ⟨i, false, Ev.step (fun k => aW.l0.eq_2 _ _ _ _ _) ?_, .inr ⟨rfl, fun e he hk => ?_⟩⟩
  ·simp only [if_neg (show ¬ ((i : Int) < (l.length : Int)) by omega)]; exact Ev.now _
  ·obtain ⟨j, hj, rfl⟩ := List.mem_iff_getElem.1 he; have := hb j hj (by omega); rw [hk] at this; exact dN _ this
 | succ d ih =>
  intro i hi hb; have hil : i < l.length := by omega
  have hlt : ltP (ck l[i]) p ↔ (l[i].f0.toList < p.1.toList ∨ l[i].f0.toList = p.1.toList ∧ l[i].f1.toList < p.2.toList) := Iff.rfl; have hgo : ∀ k, aW.l0 (k + 1) l p.1 p.2 (i : Int) = if Op.bytesLess l[i].f0.toList p.1.toList = true then aW.l0 k l p.1 p.2 ((i + 1 : Nat) : Int) else if l[i].f0.toList = p.1.toList then if Op.bytesLess l[i].f1.toList p.2.toList = true then aW.l0 k l p.1 p.2 ((i + 1 : Nat) : Int) else some ((i : Int), l[i].f1.toList == p.2.toList) else some ((i : Int), false) := by
   intro k; rw [aW.l0.eq_2]; simp only [if_pos (show ((i : Int) < (l.length : Int)) by omega), if_pos (show 0 ≤ (i : Int) by omega), fa l i hil, bT i (by omega)]
  have none_ : ¬ ltP (ck l[i]) p → ck l[i] ≠ p → ∀ e ∈ l, ck e ≠ p := by
   intro h1 h2 e he hk; have h3 : ltP p (ck l[i]) := by
    rcases fB (ck l[i]) p with h | h | h
    ·exact absurd h h1
    ·exact absurd h h2
    ·exact h
   obtain ⟨j, hj, rfl⟩ := List.mem_iff_getElem.1 he; rcases Nat.lt_trichotomy j i with h | h | h
   ·have := hb j hj h; rw [hk] at this; exact dN _ this
   ·subst h; exact h2 hk
   ·have := List.pairwise_iff_getElem.1 hs i j hil hj h; rw [hk] at this; exact h1 this
  by_cases c1 : l[i].f0.toList < p.1.toList
  ·obtain ⟨j, b, h1, h2⟩ := ih (i + 1) (by omega) (fun j hj h => by
    rcases Nat.lt_or_ge j i with h3 | h3
    ·exact hb j hj h3
    ·obtain rfl : j = i := by omega
     exact hlt.2 (.inl c1))
   exact ⟨j, b, Ev.step (fun k => by rw [hgo k, if_pos (by rw [eo]; exact decide_eq_true c1)]) h1, h2⟩
  ·by_cases c2 : l[i].f0.toList = p.1.toList
   ·by_cases c3 : l[i].f1.toList < p.2.toList
    ·obtain ⟨j, b, h1, h2⟩ := ih (i + 1) (by omega) (fun j hj h => by
      rcases Nat.lt_or_ge j i with h3 | h3
      ·exact hb j hj h3
      ·obtain rfl : j = i := by omega
       exact hlt.2 (.inr ⟨c2, c3⟩))
     exact ⟨j, b, Ev.step (fun k => by rw [hgo k, if_neg (by rw [eo]; simpa using c1), if_pos c2, if_pos (by rw [eo]; exact decide_eq_true c3)]) h1, h2⟩
    ·refine ⟨i, l[i].f1.toList == p.2.toList, Ev.step (fun k => by rw [hgo k, if_neg (by rw [eo]; simpa using c1), if_pos c2, if_neg (by rw [eo]; simpa using c3)]) (Ev.now _), ?_⟩; by_cases c4 : l[i].f1.toList = p.2.toList
     ·exact .inl ⟨by rw [c4]; exact beq_self_eq_true _, hil, Prod.ext (toList_inj.1 c2) (toList_inj.1 c4)⟩
     ·refine .inr ⟨beq_eq_false_iff_ne.2 c4, none_ (fun h => ?_) (fun h => c4 (by rw [← h]; rfl))⟩; rcases hlt.1 h with h | h
      ·exact c1 h
      ·exact c3 h.2
   ·refine ⟨i, false, Ev.step (fun k => by rw [hgo k, if_neg (by rw [eo]; simpa using c1), if_neg c2]) (Ev.now _), .inr ⟨rfl, none_ (fun h => ?_) (fun h => c2 (by rw [← h]; rfl))⟩⟩; rcases hlt.1 h with h | h
    ·exact c1 h
    ·exact c2 h.1
theorem kd (F : List S92) (R : List S46) (E : List S76) (n : Int) (j : Nat) (hj : j < E.length) (hp : ∀ p ∈ E[j].f2, p.f1.length ≤ 1048576) (hn : E[j].f2.length ≤ 1048576) : ∀ (d i : Nat) (acc : List S50), i + d = E[j].f2.length → acc.length ≤ i → Ev (fun k => aV.l0 k acc (j : Int) (i : Int) F R E n) (acc ++ E[j].f2.drop i) := by
 intro d; induction d with
 | zero =>
  intro i acc hi ha; refine Ev.step (fun k => aV.l0.eq_2 _ _ _ _ _ _ _ _) ?_; simp only [if_pos (show 0 ≤ (j : Int) by omega), if_pos (show (j : Int) < (E.length : Int) by omega), fa E j hj, if_neg (show ¬ ((i : Int) < (E[j].f2.length : Int)) by omega)]; rw [List.drop_of_length_le (by omega), List.append_nil]; exact Ev.now _
 | succ d ih =>
  intro i acc hi ha; have hl : i < E[j].f2.length := by omega
  have h1 := hp E[j].f2[i] (List.getElem_mem hl); refine Ev.step (fun k => aV.l0.eq_2 _ _ _ _ _ _ _ _) ?_; rw [List.drop_eq_getElem_cons hl]; simp only [if_pos (show 0 ≤ (j : Int) by omega), if_pos (show (j : Int) < (E.length : Int) by omega), fa E j hj, if_pos (show ((i : Int) < (E[j].f2.length : Int)) by omega), if_pos (show 0 ≤ (i : Int) by omega), gL E[j].f2 i hl, Option.bind_some, List.length_nil, Nat.zero_add, List.nil_append, if_pos (show E[j].f2[i].f1.length < 17592186044416 by omega), if_pos (show acc.length < 4398046511104 by omega), bT i (by omega)]; have := ih (i + 1) (acc ++ [⟨E[j].f2[i].f0, E[j].f2[i].f1⟩]) (by omega) (by simp; omega); rw [List.append_assoc] at this; exact this
theorem iM {F : List S92} {R : List S46} {E : List S76} (hz : f3 F R E) (n : Int) (f t : ByteArray) : Ev (fun k => dm.f k F R E n f t) (fX F R E n f t) := by
 have he := hz.e; simp only [dm.f]; refine Ev.bind (j8 hz n) ?_; unfold fX
 by_cases hb : gt F R E n = true
 ·simp only [if_pos hb]; have hs := jX hz.f hb; obtain ⟨j, b, h1, h2⟩ := qB E (f, t) hs (by omega) E.length 0 (by omega) (fun j _ h => by omega); refine Ev.bind (?_ : Ev (fun k => aV.f k F R E n f t) (fv f t E)) (Ev.now _); simp only [aV.f, Option.bind_some, aW.f]; refine Ev.bind h1 ?_; rcases h2 with ⟨rfl, hj, hk⟩ | ⟨rfl, hk⟩
  ·simp only [if_true]; rw [jK f t E hs E[j] (List.getElem_mem hj) hk]; have h0 := hz.es E[j] (List.getElem_mem hj); exact kd F R E n j hj h0.2 h0.1 E[j].f2.length 0 [] (by omega) (by simp)
  ·simp only [if_neg (show ¬ (false = true) by decide)]; rw [gw f t E hk]; exact Ev.now _
 ·simp only [if_neg hb]; exact Ev.now _
theorem oY : ∀ (ns : List Nat) (a : Int), (∀ x ∈ ns, x ≤ 1048576) → 0 ≤ a → a + ns.length * 1048577 ≤ 4611686018427387904 → a ≤ mkP ns a ∧ mkP ns a ≤ a + ns.length * 1048577
 | [], a, _, _, _ => by simp [mkP]
 | n :: ns, a, hm, h0, h1 => by
  have hn := hm n (by simp); rw [List.length_cons] at h1; rw [mkP, br (by omega) (by omega), kz n (a + 1) (by omega) (by omega), List.length_cons]; have := oY ns (a + 1 + n) (fun x hx => hm x (List.mem_cons_of_mem _ hx)) (by omega) (by omega); omega
open Classical in
noncomputable def MT (n : Int) : ByteArray := if h : ∃ r, Ev (fun k => aE.f k n) r then Classical.choose h else ByteArray.empty
theorem nW : ∀ (d : Nat) (n : Int) (s : ByteArray), 0 ≤ n → n ≤ 9223372036854775807 → n < 10 ^ d → s.size + d ≤ 1000 → ∃ r, Ev (fun k => aE.l0 k n s) r := by
 intro d; induction d with
 | zero =>
  intro n s h0 hm h1 hs; refine ⟨(⟨#[109]⟩ : ByteArray) ++ s, Ev.step (fun k => aE.l0.eq_2 _ _ _) ?_⟩; simp only [if_neg (show ¬ n > 0 by simp at h1; omega), if_pos (show 1 + s.size ≤ 9223372036854775807 by omega)]; exact Ev.now _
 | succ d ih =>
  intro n s h0 hm h1 hs; by_cases hp : n > 0
  ·have e : Int.tdiv n 10 = n / 10 := Int.tdiv_eq_ediv_of_nonneg h0; have hq : n / 10 < 10 ^ d := by
    have : n < 10 ^ d * 10 := by rw [← Int.pow_succ]; exact h1
    omega
   obtain ⟨r, hr⟩ := ih (n / 10) ((strOfNums [(wrap64 (48 + (Int.tmod n 10))) % 256]) ++ s) (by omega) (by omega) hq (by rw [ByteArray.size_append, strOfNums_size]; simp; omega); refine ⟨r, Ev.step (fun k => aE.l0.eq_2 _ _ _) ?_⟩; simp only [if_pos hp, Option.bind_some, strOfNums_size, List.length_singleton, if_pos (show 1 + s.size ≤ 9223372036854775807 by omega), e, br (x := n / 10) (by omega) (by omega)]; exact hr
  ·refine ⟨(⟨#[109]⟩ : ByteArray) ++ s, Ev.step (fun k => aE.l0.eq_2 _ _ _) ?_⟩; simp only [if_neg hp, if_pos (show 1 + s.size ≤ 9223372036854775807 by omega)]; exact Ev.now _
theorem nC (n : Int) (h0 : 0 ≤ n) (h1 : n ≤ 9223372036854775807) : ∃ r, Ev (fun k => aE.f k n) r := by
 simp only [aE.f]; by_cases h : n ≤ 0
 ·simp only [if_pos h]; exact ⟨_, Ev.now _⟩
 ·simp only [if_neg h]; exact nW 20 n _ h0 h1 (by omega) (by decide)
theorem eS (n : Int) (h0 : 0 ≤ n) (h1 : n ≤ 4611686018427387904) : Ev (fun k => aE.f k n) (MT n) := by
 have h := nC n h0 (by omega); unfold MT
 rw [dif_pos h]; exact Classical.choose_spec h
theorem rV : ∀ (ns : List (List Nat)) (a : Int), (∀ x ∈ ns, x.length ≤ 1048576 ∧ ∀ y ∈ x, y ≤ 1048576) → 0 ≤ a → a + ns.length * 1099512676354 ≤ 4611686018427387904 → ∃ r, Ev (fun k => mkE k ns a) r ∧ a ≤ r ∧ r ≤ a + ns.length * 1099512676354
 | [], a, _, _, _ => ⟨a, by simp only [mkE]; exact Ev.now _, by omega, by simp⟩
 | n :: ns, a, hm, h0, h1 => by
  obtain ⟨hn, hy⟩ := hm n (by simp); rw [List.length_cons] at h1 ⊢; obtain ⟨p1, p2⟩ := oY n (a + 1 + 1) hy (by omega) (by omega); obtain ⟨r, hr, h2, h3⟩ := rV ns (mkP n (a + 1 + 1)) (fun x hx => hm x (List.mem_cons_of_mem _ hx)) (by omega) (by omega); refine ⟨r, ?_, by omega, by omega⟩; simp only [mkE]; rw [br (x := a + 1) (by omega) (by omega), br (x := a + 1 + 1) (by omega) (by omega)]; refine Ev.bind (eS a h0 (by omega)) ?_; exact Ev.bind (eS (a + 1) (by omega) (by omega)) hr
theorem se : ∀ (n : Nat) (a : Int), 0 ≤ a → a + 3 * n ≤ 4611686018427387904 → Ev (fun k => mkF k n a) (a + 3 * n)
 | 0, a, _, _ => by simp only [mkF, Int.natCast_zero, Int.mul_zero, Int.add_zero]; exact Ev.now _
 | n + 1, a, h0, h1 => by
  simp only [mkF]; refine Ev.bind (eS a h0 (by omega)) ?_; rw [br (x := a + 1) (by omega) (by omega), br (x := a + 1 + 1) (by omega) (by omega), br (x := a + 1 + 1 + 1) (by omega) (by omega)]; have := se n (a + 1 + 1 + 1) (by omega) (by omega); rwa [show a + 1 + 1 + 1 + 3 * (n : Int) = a + 3 * ((n + 1 : Nat) : Int) by omega] at this
theorem rn : ∀ (n : Nat) (a : Int), 0 ≤ a → a + 2 * n ≤ 4611686018427387904 → Ev (fun k => mkC k n a) (a + 2 * n)
 | 0, a, _, _ => by simp only [mkC, Int.natCast_zero, Int.mul_zero, Int.add_zero]; exact Ev.now _
 | n + 1, a, h0, h1 => by
  simp only [mkC]; refine Ev.bind (eS a h0 (by omega)) ?_; rw [br (x := a + 1) (by omega) (by omega), br (x := a + 1 + 1) (by omega) (by omega)]; refine Ev.bind (eS (a + 1) (by omega) (by omega)) ?_; have := rn n (a + 1 + 1) (by omega) (by omega); rwa [show a + 1 + 1 + 2 * (n : Int) = a + 2 * ((n + 1 : Nat) : Int) by omega] at this
theorem rg : ∀ (ns : List Nat) (a : Int), (∀ x ∈ ns, x ≤ 1048576) → 0 ≤ a → a + ns.length * 2097154 ≤ 4611686018427387904 → ∃ r, Ev (fun k => mkR k ns a) r ∧ a ≤ r ∧ r ≤ a + ns.length * 2097154
 | [], a, _, _, _ => ⟨a, by simp only [mkR]; exact Ev.now _, by omega, by simp⟩
 | n :: ns, a, hm, h0, h1 => by
  have hn := hm n (by simp); rw [List.length_cons] at h1 ⊢; obtain ⟨r, hr, h2, h3⟩ := rg ns (a + 1 + 1 + 2 * n) (fun x hx => hm x (List.mem_cons_of_mem _ hx)) (by omega) (by omega); refine ⟨r, ?_, by omega, by omega⟩; simp only [mkR]; rw [br (x := a + 1) (by omega) (by omega), br (x := a + 1 + 1) (by omega) (by omega)]; refine Ev.bind (eS (a + 1) (by omega) (by omega)) ?_; exact Ev.bind (rn n (a + 1 + 1) (by omega) (by omega)) hr
theorem rG {F : List S92} {R : List S46} {E : List S76} (hz : f3 F R E) (n : Int) : ∃ r, Ev (fun k => dG.f k F R E n 1) r ∧ 1 ≤ r := by
 have hf := hz.f; have hr := hz.r; have he := hz.e; obtain ⟨b, h1, h2, h3⟩ := rg (R.map fun x => x.f1.f1.length) (1 + 3 * F.length) (fun x hx => by obtain ⟨y, hy, rfl⟩ := List.mem_map.1 hx; exact (hz.rs y hy).2.1) (by omega) (by rw [List.length_map]; omega); rw [List.length_map] at h3; obtain ⟨c, g1, g2, g3⟩ := rV (E.map fun x => x.f2.map fun p => p.f1.length) b (fun x hx => by
  obtain ⟨y, hy, rfl⟩ := List.mem_map.1 hx; exact ⟨by rw [List.length_map]; exact (hz.es y hy).1, fun z h => by obtain ⟨q, hq, rfl⟩ := List.mem_map.1 h; exact (hz.es y hy).2 q hq⟩) (by omega) (by rw [List.length_map]; omega)
 refine ⟨c, ?_, by omega⟩; simp only [dG.f, mkI]; exact Ev.bind (se F.length 1 (by omega) (by omega)) (Ev.bind h1 g1)
theorem FnExactIndexPosts : bC.PureX := by
 intro F R E n f p hF hR hE hn _ _; have hm : maxLen = 9223372036854775807 := rfl; refine Ev.rounds (g := fun k => bC.f k F R E n f p) ?_; simp only [bC.f]; by_cases hg : (f.size : Int) > 1048576
 ·simp only [if_pos hg]; exact Ev.now _
 simp only [if_neg hg]; by_cases hg2 : (p.size : Int) > 1048576
 ·simp only [if_pos hg2]; exact Ev.now _
 simp only [if_neg hg2]; obtain ⟨r, hr, hq⟩ := pb F R E n ⟨by omega, fun x hx => by have := hF.2 x hx; unfold fz; have := this.1; omega⟩
  ⟨by omega, fun x hx => by
   obtain ⟨_, b, c, d⟩ := hR.2 x hx; exact ⟨b, c, fun y hy => by have := d y hy; unfold fH; exact ⟨by have := this.1; omega, by have := this.2; omega⟩⟩⟩
  ⟨by omega, fun x hx => by
   obtain ⟨a, b, c, d⟩ := hE.2 x hx; exact ⟨a, b, c, fun y hy => (d y hy).2.1⟩⟩
 refine Ev.bind hr ?_; rcases hq with hq | ⟨q0, q1⟩
 ·simp only [hq, if_pos (show (-1 : Int) < 0 by omega)]; exact Ev.now _
 simp only [if_neg (show ¬ r < 0 by omega)]; have hz := qh q1; have hs := iM hz n f p; have hd := iG hz n f p; obtain ⟨c1, c2⟩ := ma hz n f p; obtain ⟨C, hK⟩ : ∃ C, fX (F.map iH) (R.map kT) (E.map fF) n f p = C := ⟨_, rfl⟩; rw [hK] at hs hd c1 c2; obtain ⟨m, hM, h1⟩ := rG hz n; obtain ⟨l1, _⟩ := oY (C.map fun p => p.f1.length) 1 (fun x hx => by obtain ⟨q, hq, rfl⟩ := List.mem_map.1 hx; exact c2 q hq) (by omega) (by rw [List.length_map]; omega); refine Ev.bind (pf F R E n q1) ?_; refine Ev.bind hs ?_; refine Ev.bind hd ?_; refine Ev.bind (iW C c1 c2) ?_; refine Ev.bind (mZ hz n) ?_; refine Ev.bind hM ?_; refine Ev.bind (mR C c1 c2) ?_; rw [if_pos ⟨rfl, rfl, by omega, by omega, rfl, by omega, fun q hq => by have := c2 q hq; omega⟩]; exact Ev.now _
end Go.Proofs.YtnjjdojonflckaaGreatDoor.Pure
