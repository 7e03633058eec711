/- The plain law of FnExactWords: whatever the input, the printed function of this law answers true after enough rounds; conditions: only the sizes and kinds that the law's Pure states. -/
import Derived.Test.YtalddeknbjfgcaaPFnExactWordsx3
namespace Go.Proofs.Ytalddeknbjfgcaa.Pure
open Go.RowKit Go.Proofs.Ytalddeknbjfgcaa.PFnExactWords Go.Proofs.YtalddeknbjfgcaaW.PrintWords Go.Proofs.YtalddeknbjfgcaaW.PrintLast
set_option linter.unusedVariables false
set_option linter.unusedSimpArgs false

theorem wrap_id {x : Int} (h0 : -9223372036854775808 ≤ x) (h1 : x ≤ 9223372036854775807) : wrap64 x = x := by unfold wrap64; omega
theorem wsucc (j : Nat) (h : j < 9223372036854775807) : wrap64 ((j : Int) + 1) = ((j + 1 : Nat) : Int) := by rw [wrap_id (by omega) (by omega)]; omega
theorem wpred (j : Nat) (h : j < 9223372036854775807) : wrap64 (((j + 1 : Nat) : Int) - 1) = (j : Int) := by rw [wrap_id (by omega) (by omega)]; omega
theorem rd_get (l : List Int) (j : Nat) (h : j < l.length) : rd l (j : Int) = l[j] := by
  unfold rd; simp [List.getD_eq_getElem?_getD, List.getElem?_eq_getElem h]
theorem rdOf_get {α : Type} (d : α) (l : List α) (j : Nat) (h : j < l.length) : rdOf d l (j : Int) = l[j] := by
  unfold rdOf; simp [List.getD_eq_getElem?_getD, List.getElem?_eq_getElem h]
theorem bt_get (s : ByteArray) (j : Nat) (h : j < (bytesOf s).length) : bt s (j : Int) = (bytesOf s)[j] := by
  rw [← rd_bytesOf, rd_get _ _ h]
theorem drop_get {α : Type} (l : List α) (j : Nat) (h : j < l.length) : l.drop j = l[j] :: l.drop (j + 1) := List.drop_eq_getElem_cons h
theorem ev_eq {α : Type} {g : Nat → Option α} {r : α} (h : ∀ k, g k = some r) : Ev g r := ⟨0, fun k _ => h k⟩
theorem ev_unique {α : Type} {g : Nat → Option α} {a b : α} (h : Ev g a) (h' : Ev g b) : a = b := by
  obtain ⟨K, h⟩ := h
  obtain ⟨K', h'⟩ := h'
  exact Option.some.inj ((h (max K K') (by omega)).symm.trans (h' (max K K') (by omega)))
theorem take_set_succ {α : Type} (l m : List α) (i : Nat) (v : α) (hl : i < l.length) (hm : i < m.length) (hv : m[i] = v) (h : l.take i = m.take i) : (l.set i v).take (i + 1) = m.take (i + 1) := by
  rw [List.take_add_one, List.take_add_one, List.take_set_of_le (Nat.le_refl _), h]
  congr 1
  rw [List.getElem?_set_self hl, List.getElem?_eq_getElem hm, hv]
theorem toNat_cast (i : Nat) : ((i : Int)).toNat = i := by simp
theorem bytesOf_range (s : ByteArray) : ∀ c ∈ bytesOf s, 0 ≤ c ∧ c ≤ 255 := by
  intro c hc
  obtain ⟨b, _, rfl⟩ := List.mem_map.1 hc
  have := b.toNat_lt
  omega
theorem ev_prop {g : Nat → Option Bool} {p q : Prop} [Decidable p] [Decidable q] (h : p ↔ q) (k : Ev g (decide p)) : Ev g (decide q) := by
  have : decide p = decide q := decide_eq_decide.2 h
  rw [← this]; exact k
theorem ev_true {g : Nat → Option Bool} {p : Prop} [Decidable p] (h : p) (k : Ev g true) : Ev g (decide p) := by
  rw [decide_eq_true h]; exact k
theorem ev_false {g : Nat → Option Bool} {p : Prop} [Decidable p] (h : ¬ p) (k : Ev g false) : Ev g (decide p) := by
  rw [decide_eq_false h]; exact k
theorem mem_drop_step {α : Type} {l : List α} {j : Nat} {n : α} (h : j < l.length) : n ∈ l.drop j ↔ n = l[j] ∨ n ∈ l.drop (j + 1) := by
  rw [List.drop_eq_getElem_cons h, List.mem_cons]
theorem drop_eq_step {α : Type} {a b : List α} {j : Nat} (ha : j < a.length) (hb : j < b.length) : a.drop j = b.drop j ↔ a[j] = b[j] ∧ a.drop (j + 1) = b.drop (j + 1) := by
  rw [List.drop_eq_getElem_cons ha, List.drop_eq_getElem_cons hb, List.cons.injEq]

def lowP (c : Int) : Prop := 97 ≤ c ∧ c ≤ 122
def digP (c : Int) : Prop := 48 ≤ c ∧ c ≤ 57
def upP (c : Int) : Prop := 65 ≤ c ∧ c ≤ 90
instance (c : Int) : Decidable (lowP c) := by unfold lowP; infer_instance
instance (c : Int) : Decidable (digP c) := by unfold digP; infer_instance
instance (c : Int) : Decidable (upP c) := by unfold upP; infer_instance
def nameFrom (l : List Int) (j : Nat) : Prop := (∀ (i : Nat) (h : i < l.length), j ≤ i → lowP l[i] ∨ (0 < i ∧ digP l[i])) ∧ 1 ≤ l.length ∧ l.length ≤ 8
open Classical in
noncomputable def nameB (l : List Int) : Bool := decide (nameFrom l 0)
open Classical in
theorem nameB_iff {l : List Int} : nameB l = true ↔ nameFrom l 0 := by unfold nameB; exact decide_eq_true_iff
theorem nameFrom_end {l : List Int} {j : Nat} (hj : l.length ≤ j) : nameFrom l j ↔ 1 ≤ l.length ∧ l.length ≤ 8 := ⟨fun h => h.2, fun h => ⟨fun i hi hji => by omega, h⟩⟩
theorem nameFrom_step {l : List Int} {j : Nat} (hj : j < l.length) : nameFrom l j ↔ (lowP l[j] ∨ (0 < j ∧ digP l[j])) ∧ nameFrom l (j + 1) := by
  constructor
  · rintro ⟨h, h2⟩
    exact ⟨h j hj (Nat.le_refl _), fun i hi hji => h i hi (by omega), h2⟩
  · rintro ⟨h, h1, h2⟩
    refine ⟨fun i hi hji => ?_, h2⟩
    rcases Nat.lt_or_ge j i with hlt | hge
    · exact h1 i hi hlt
    · obtain rfl : i = j := by omega
      exact h

def wordP (c : Int) : Prop := upP c ∨ lowP c ∨ digP c
instance (c : Int) : Decidable (wordP c) := by unfold wordP; infer_instance
/-- Where the words of a row of bytes stand: from position p on; st: where the open word began. -/
def wordsAt : Nat → Option Nat → List Int → List (Nat × Nat)
  | _, none, [] => []
  | p, some st, [] => [(st, p)]
  | p, none, c :: cs => if wordP c then wordsAt (p + 1) (some p) cs else wordsAt (p + 1) none cs
  | p, some st, c :: cs => if wordP c then wordsAt (p + 1) (some st) cs else (st, p) :: wordsAt (p + 1) none cs

def mkWord (s : ByteArray) (q : Nat × Nat) : S35 := ⟨s.extract q.1 q.2, (q.1 : Int), (q.2 : Int)⟩
def wordsOf (s : ByteArray) : List S35 := (wordsAt 0 none (bytesOf s)).map (mkWord s)

theorem toList_data (s : ByteArray) : s.toList = s.data.toList := by
  exact ByteArray.toList_eq s

theorem toList_inj {a b : ByteArray} : a.toList = b.toList ↔ a = b := by
  rw [toList_data, toList_data]
  constructor
  · intro h; exact ByteArray.ext (Array.toList_inj.1 h)
  · rintro rfl; rfl
noncomputable instance : DecidableEq S35 := fun _ _ => Classical.propDecidable _
theorem laws_eqWord_eq (x y : S35) : laws_eqWord.f x.f0 x.f1 x.f2 y.f0 y.f1 y.f2 = some (decide (x = y)) := by
  obtain ⟨a, b, c⟩ := x
  obtain ⟨a', b', c'⟩ := y
  simp only [laws_eqWord.f, toList_inj]
  by_cases h1 : a = a'
  · by_cases h2 : b = b'
    · by_cases h3 : c = c'
      · simp [h1, h2, h3]
      · simp [h1, h2, h3]
    · simp [h1, h2]
  · simp [h1]

theorem rd_word_get (l : List S35) (j : Nat) (h : j < l.length) : rd_T35 l (j : Int) = l[j] := by
  unfold rd_T35; simp [List.getD_eq_getElem?_getD, List.getElem?_eq_getElem h]
theorem eqWordS_l0 (a b : List S35) (hn : a.length < 4611686018427387904) (hl : a.length = b.length) : ∀ (d i : Nat), i + d = a.length →
    Ev (fun k => laws_eqWordS.l0 k a b (i : Int)) (decide (a.drop i = b.drop i)) := by
  intro d
  induction d with
  | zero =>
    intro i hi
    refine Ev.step (fun k => laws_eqWordS.l0.eq_2 _ _ _ _) ?_
    simp only [if_neg (show ¬ ((i : Int) < (a.length : Int)) by omega)]
    rw [List.drop_of_length_le (by omega), List.drop_of_length_le (by omega)]
    exact ev_true rfl (Ev.now _)
  | succ d ih =>
    intro i hi
    refine Ev.step (fun k => laws_eqWordS.l0.eq_2 _ _ _ _) ?_
    simp only [if_pos (show ((i : Int) < (a.length : Int)) by omega), if_pos (show 0 ≤ (i : Int) by omega), if_pos (show ((i : Int) < (b.length : Int)) by omega), wsucc i (by omega), rd_word_get a i (by omega), rd_word_get b i (by omega), laws_eqWord_eq, Option.bind_some, decide_eq_true_eq]
    have hs := drop_eq_step (a := a) (b := b) (show i < a.length by omega) (show i < b.length by omega)
    by_cases h : a[i] = b[i]
    · simp only [if_pos h]
      exact ev_prop (hs.trans ⟨fun h1 => h1.2, fun h1 => ⟨h, h1⟩⟩).symm (ih (i + 1) (by omega))
    · simp only [if_neg h]
      exact ev_false (fun h1 => h (hs.1 h1).1) (Ev.now _)
theorem eqWordS_ev (a b : List S35) (hn : a.length < 4611686018427387904) : Ev (fun k => laws_eqWordS.f k a b) (decide (a = b)) := by
  simp only [laws_eqWordS.f]
  by_cases hl : a.length = b.length
  · simp only [if_pos (show (a.length : Int) = (b.length : Int) by omega)]
    exact eqWordS_l0 a b hn hl a.length 0 (by omega)
  · simp only [if_neg (show ¬ (a.length : Int) = (b.length : Int) by omega)]
    exact ev_false (fun h => hl (by rw [h])) (Ev.now _)

theorem impl_digit_eq (a : Int) : impl_digit.f a = some (decide (digP a)) := by
  unfold impl_digit.f digP
  by_cases h : a ≥ 48
  · rw [if_pos h]; congr 1; exact decide_eq_decide.2 (by omega)
  · rw [if_neg h]; congr 1; symm; exact decide_eq_false (by omega)

theorem impl_lower_eq (a : Int) : impl_lower.f a = some (decide (lowP a)) := by
  unfold impl_lower.f lowP
  by_cases h : a ≥ 97
  · rw [if_pos h]; congr 1; exact decide_eq_decide.2 (by omega)
  · rw [if_neg h]; congr 1; symm; exact decide_eq_false (by omega)

theorem impl_upper_eq (a : Int) : impl_upper.f a = some (decide (upP a)) := by
  unfold impl_upper.f upP
  by_cases h : a ≥ 65
  · rw [if_pos h]; congr 1; exact decide_eq_decide.2 (by omega)
  · rw [if_neg h]; congr 1; symm; exact decide_eq_false (by omega)

theorem impl_wordByte_eq (c : Int) : impl_wordByte.f c = some (decide (wordP c)) := by
  simp only [impl_wordByte.f, impl_upper_eq, impl_lower_eq, impl_digit_eq, Option.bind_some, decide_eq_true_eq]
  by_cases h1 : upP c
  · rw [if_pos h1, decide_eq_true (show wordP c from .inl h1)]
  · rw [if_neg h1]
    by_cases h2 : lowP c
    · rw [if_pos h2, decide_eq_true (show wordP c from .inr (.inl h2))]
    · rw [if_neg h2]; congr 1; exact decide_eq_decide.2 ⟨fun h => .inr (.inr h), fun h => (h.resolve_left h1).resolve_left h2⟩

theorem impl_Words_l (s : ByteArray) (hn : s.size < 1099511627776) : ∀ (d : Nat),
    (∀ (i : Nat) (acc : List S35), i + d = s.size → acc.length ≤ i → Ev (fun k => impl_Words.l0 k s acc (i : Int)) (acc ++ (wordsAt i none ((bytesOf s).drop i)).map (mkWord s))) ∧
    (∀ (i j : Nat) (acc : List S35), i + d = s.size → j < i → acc.length ≤ i → Ev (fun k => impl_Words.l1 k s acc (i : Int) (j : Int)) (acc ++ (wordsAt i (some j) ((bytesOf s).drop i)).map (mkWord s))) := by
  have hb := bytesOf_length s
  intro d
  induction d with
  | zero =>
    have h0 : ∀ (i : Nat) (acc : List S35), s.size ≤ i → Ev (fun k => impl_Words.l0 k s acc (i : Int)) acc := by
      intro i acc hi
      refine Ev.step (fun k => impl_Words.l0.eq_2 _ _ _ _) ?_
      simp only [if_neg (show ¬ ((i : Int) < (s.size : Int)) by omega)]
      exact Ev.now _
    constructor
    · intro i acc hi hacc
      rw [List.drop_of_length_le (by omega)]
      simpa [wordsAt] using h0 i acc (by omega)
    · intro i j acc hi hj hacc
      rw [List.drop_of_length_le (by omega)]
      refine Ev.step (fun k => impl_Words.l1.eq_2 _ _ _ _ _) ?_
      simp only [if_neg (show ¬ ((i : Int) < (s.size : Int)) by omega), if_pos (show (i : Int) > (j : Int) by omega), if_pos (show 0 ≤ (j : Int) by omega), if_pos (show (j : Int) ≤ (i : Int) by omega), if_pos (show (i : Int) ≤ (s.size : Int) by omega), if_pos (show acc.length < 4398046511104 by omega), wsucc i (by omega), toNat_cast]
      exact h0 (i + 1) _ (by omega)
  | succ d ih =>
    have h1 : ∀ (i j : Nat) (acc : List S35), i + (d + 1) = s.size → j ≤ i → acc.length ≤ i → Ev (fun k => impl_Words.l1 k s acc (i : Int) (j : Int)) (acc ++ (wordsAt i (if j < i then some j else none) ((bytesOf s).drop i)).map (mkWord s)) := by
      intro i j acc hi hj hacc
      refine Ev.step (fun k => impl_Words.l1.eq_2 _ _ _ _ _) ?_
      simp only [if_pos (show ((i : Int) < (s.size : Int)) by omega), if_pos (show 0 ≤ (i : Int) by omega), bt_get s i (by omega), impl_wordByte_eq, Option.bind_some, decide_eq_true_eq, wsucc i (by omega)]
      rw [drop_get (bytesOf s) i (by omega)]
      by_cases hw : wordP (bytesOf s)[i]
      · simp only [if_pos hw]
        have := ih.2 (i + 1) j acc (by omega) (by omega) (by omega)
        by_cases hji : j < i
        · simpa only [if_pos hji, wordsAt, if_pos hw] using this
        · obtain rfl : j = i := by omega
          simpa only [if_neg hji, wordsAt, if_pos hw] using this
      · simp only [if_neg hw]
        by_cases hji : j < i
        · simp only [if_pos hji, if_pos (show (i : Int) > (j : Int) by omega), if_pos (show 0 ≤ (j : Int) by omega), if_pos (show (j : Int) ≤ (i : Int) by omega), if_pos (show (i : Int) ≤ (s.size : Int) by omega), if_pos (show acc.length < 4398046511104 by omega), toNat_cast, wordsAt, if_neg hw]
          have := ih.1 (i + 1) (acc ++ [mkWord s (j, i)]) (by omega) (by simp; omega)
          rw [List.append_assoc] at this
          exact this
        · simp only [if_neg hji, if_neg (show ¬ (i : Int) > (j : Int) by omega), wordsAt, if_neg hw]
          exact ih.1 (i + 1) acc (by omega) (by omega)
    constructor
    · intro i acc hi hacc
      refine Ev.step (fun k => impl_Words.l0.eq_2 _ _ _ _) ?_
      simp only [if_pos (show ((i : Int) < (s.size : Int)) by omega)]
      have := h1 i i acc hi (Nat.le_refl _) hacc
      simpa only [if_neg (Nat.lt_irrefl i)] using this
    · intro i j acc hi hj hacc
      have := h1 i j acc hi (by omega) hacc
      simpa only [if_pos hj] using this
theorem impl_Words_ev (s : ByteArray) (hn : s.size < 1099511627776) : Ev (fun k => impl_Words.f k s) (wordsOf s) := by
  have := (impl_Words_l s hn s.size).1 0 [] (by omega) (by simp)
  rw [List.nil_append, List.drop_zero] at this
  exact this

theorem markText_l0 : ∀ (d : Nat) (n : Int) (s : ByteArray), 0 ≤ n → n ≤ 9223372036854775807 → n < 10 ^ d → s.size + d ≤ 1000 → ∃ r, Ev (fun k => laws_markText.l0 k n s) r := by
  intro d
  induction d with
  | zero =>
    intro n s h0 hm h1 hs
    refine ⟨(⟨#[109]⟩ : ByteArray) ++ s, Ev.step (fun k => laws_markText.l0.eq_2 _ _ _) ?_⟩
    simp only [if_neg (show ¬ n > 0 by simp at h1; omega), if_pos (show 1 + s.size ≤ 9223372036854775807 by omega)]
    exact Ev.now _
  | succ d ih =>
    intro n s h0 hm h1 hs
    by_cases hp : n > 0
    · have e : Int.tdiv n 10 = n / 10 := Int.tdiv_eq_ediv_of_nonneg h0
      have hq : n / 10 < 10 ^ d := by
        have : n < 10 ^ d * 10 := by rw [← Int.pow_succ]; exact h1
        omega
      obtain ⟨r, hr⟩ := ih (n / 10) ((strOfNums [(wrap64 (48 + (Int.tmod n 10))) % 256]) ++ s) (by omega) (by omega) hq (by rw [ByteArray.size_append, strOfNums_size]; simp; omega)
      refine ⟨r, Ev.step (fun k => laws_markText.l0.eq_2 _ _ _) ?_⟩
      simp only [if_pos hp, Option.bind_some, strOfNums_size, List.length_singleton, if_pos (show 1 + s.size ≤ 9223372036854775807 by omega), e, wrap_id (x := n / 10) (by omega) (by omega)]
      exact hr
    · refine ⟨(⟨#[109]⟩ : ByteArray) ++ s, Ev.step (fun k => laws_markText.l0.eq_2 _ _ _) ?_⟩
      simp only [if_neg hp, if_pos (show 1 + s.size ≤ 9223372036854775807 by omega)]
      exact Ev.now _
theorem markText_ex (n : Int) (h0 : 0 ≤ n) (h1 : n ≤ 9223372036854775807) : ∃ r, Ev (fun k => laws_markText.f k n) r := by
  simp only [laws_markText.f]
  by_cases h : n ≤ 0
  · simp only [if_pos h]; exact ⟨_, Ev.now _⟩
  · simp only [if_neg h]
    exact markText_l0 20 n _ h0 h1 (by omega) (by decide)
open Classical in
noncomputable def MT (n : Int) : ByteArray := if h : ∃ r, Ev (fun k => laws_markText.f k n) r then Classical.choose h else ByteArray.empty
theorem markText_ev (n : Int) (h0 : 0 ≤ n) (h1 : n ≤ 4611686018427387904) : Ev (fun k => laws_markText.f k n) (MT n) := by
  have h := markText_ex n h0 (by omega)
  unfold MT
  rw [dif_pos h]
  exact Classical.choose_spec h

noncomputable def mkWords (a : Int) : Nat → List S35
  | 0 => []
  | n + 1 => ⟨MT a, a + 1, a + 2⟩ :: mkWords (a + 3) n
theorem mkWords_length (a : Int) (n : Nat) : (mkWords a n).length = n := by
  induction n generalizing a with
  | zero => rfl
  | succ n ih => simp [mkWords, ih]
theorem take_set_eq {α : Type} (l : List α) (i : Nat) (v : α) (h : i < l.length) : (l.set i v).take (i + 1) = l.take i ++ [v] := by
  rw [List.take_add_one, List.take_set_of_le (Nat.le_refl _), List.getElem?_set_self h]; rfl
theorem markWordS_l0 : ∀ (d i : Nat) (l : List S35) (a : Int), i + d = l.length → l.length < 1152921504606846976 → 0 ≤ a → a + 3 * d < 4611686018427387904 →
    Ev (fun k => laws_markWordS.l0 k l a (i : Int)) (a + 3 * d, l.take i ++ mkWords a d) := by
  intro d
  induction d with
  | zero =>
    intro i l a hi hn ha hb
    refine Ev.step (fun k => laws_markWordS.l0.eq_2 _ _ _ _) ?_
    simp only [if_neg (show ¬ ((i : Int) < (l.length : Int)) by omega)]
    have : (a + 3 * ((0 : Nat) : Int), l.take i ++ mkWords a 0) = (a, l) := by simp [mkWords, List.take_of_length_le (show l.length ≤ i by omega)]
    rw [this]; exact Ev.now _
  | succ d ih =>
    intro i l a hi hn ha hb
    refine Ev.step (fun k => laws_markWordS.l0.eq_2 _ _ _ _) ?_
    simp only [if_pos (show ((i : Int) < (l.length : Int)) by omega), if_pos (show 0 ≤ (i : Int) by omega), wsucc i (by omega), toNat_cast, Option.bind_some, wrap_id (x := a + 1) (by omega) (by omega), wrap_id (x := a + 1 + 1) (by omega) (by omega), wrap_id (x := a + 1 + 1 + 1) (by omega) (by omega)]
    refine Ev.bind (markText_ev a ha (by omega)) ?_
    have g : ∀ v : S35, rd_T35 (l.set i v) (i : Int) = v := fun v => by rw [rd_word_get _ i (by simp; omega)]; simp
    simp only [g, List.set_set, show a + 1 + 1 = a + 2 by omega, show a + 2 + 1 = a + 3 by omega]
    have h := ih (i + 1) (l.set i ⟨MT a, a + 1, a + 2⟩) (a + 3) (by simp; omega) (by simp; omega) (by omega) (by omega)
    rw [take_set_eq l i _ (by omega)] at h
    have e2 : (a + 3 + 3 * (d : Int), l.take i ++ [(⟨MT a, a + 1, a + 2⟩ : S35)] ++ mkWords (a + 3) d) = (a + 3 * ((d + 1 : Nat) : Int), l.take i ++ mkWords a (d + 1)) := by
      simp [mkWords]; omega
    rw [← e2]; exact h
theorem markWordS_ev (l : List S35) (hn : l.length < 1125899906842624) : Ev (fun k => laws_markWordS.f k l 1) (1 + 3 * l.length, mkWords 1 l.length) :=
  markWordS_l0 l.length 0 l 1 (by omega) (by omega) (by omega) (by omega)
theorem heldWordS_l0 (l : List S35) (hn : l.length < 1152921504606846976) : ∀ (d i : Nat) (a : Int), i + d = l.length → 0 ≤ a → a + 3 * d < 4611686018427387904 → l.drop i = mkWords a d →
    Ev (fun k => laws_heldWordS.l0 k l a (i : Int)) (a + 3 * d) := by
  intro d
  induction d with
  | zero =>
    intro i a hi ha hb hd
    refine Ev.step (fun k => laws_heldWordS.l0.eq_2 _ _ _ _) ?_
    simp only [if_neg (show ¬ ((i : Int) < (l.length : Int)) by omega)]
    simpa using Ev.now a
  | succ d ih =>
    intro i a hi ha hb hd
    refine Ev.step (fun k => laws_heldWordS.l0.eq_2 _ _ _ _) ?_
    rw [drop_get l i (by omega)] at hd
    simp only [mkWords, List.cons.injEq] at hd
    simp only [if_pos (show ((i : Int) < (l.length : Int)) by omega), if_pos (show 0 ≤ (i : Int) by omega), wsucc i (by omega), rd_word_get l i (by omega), hd.1, wrap_id (x := a + 1) (by omega) (by omega), wrap_id (x := a + 1 + 1) (by omega) (by omega), wrap_id (x := a + 1 + 1 + 1) (by omega) (by omega)]
    refine Ev.bind (markText_ev a ha (by omega)) ?_
    simp only [show a + 1 + 1 = a + 2 by omega, show a + 2 + 1 = a + 3 by omega, if_true]
    have h := ih (i + 1) (a + 3) (by omega) (by omega) (by omega) hd.2
    have e : a + 3 + 3 * (d : Int) = a + 3 * ((d + 1 : Nat) : Int) := by omega
    rw [← e]; exact h
theorem heldWordS_ev (n : Nat) (hn : n < 1125899906842624) : Ev (fun k => laws_heldWordS.f k (mkWords 1 n) 1) (1 + 3 * n) :=
  heldWordS_l0 (mkWords 1 n) (by rw [mkWords_length]; omega) n 0 1 (by rw [mkWords_length]; omega) (by omega) (by omega) rfl

theorem spec_l1Small_eq (c : Int) (h0 : 0 ≤ c) (h1 : c ≤ 255) : spec_l1Small.f c = some (if upP c then c + 32 else c) := by
  unfold spec_l1Small.f
  by_cases h : upP c
  · have h' : 65 ≤ c ∧ c ≤ 90 := h
    rw [if_pos h'.1, if_pos h'.2, if_pos h]; congr 1; omega
  · have h' : ¬ (65 ≤ c ∧ c ≤ 90) := h
    rw [if_neg h]
    by_cases h2 : c ≥ 65
    · rw [if_pos h2, if_neg (by omega)]
    · rw [if_neg h2]
theorem spec_l1Part_eq (c : Int) (h0 : 0 ≤ c) (h1 : c ≤ 255) : spec_l1Part.f c = some (decide (wordP c)) := by
  simp only [spec_l1Part.f, spec_l1Small_eq c h0 h1, Option.bind_some]
  by_cases h : upP c
  · have h' : 65 ≤ c ∧ c ≤ 90 := h
    simp only [if_pos h, if_pos (show c + 32 ≥ 97 by omega), if_pos (show c + 32 ≤ 122 by omega)]
    congr 1; symm; exact decide_eq_true (.inl h)
  · have h' : ¬ (65 ≤ c ∧ c ≤ 90) := h
    simp only [if_neg h]
    by_cases h2 : c ≥ 97
    · simp only [if_pos h2]
      by_cases h3 : c ≤ 122
      · simp only [if_pos h3]; congr 1; symm; exact decide_eq_true (.inr (.inl ⟨h2, h3⟩))
      · simp only [if_neg h3, if_pos (show c ≥ 48 by omega)]; congr 1; exact decide_eq_decide.2 ⟨fun h4 => .inr (.inr ⟨by omega, h4⟩), fun h4 => by rcases h4 with h4 | h4 | h4; exact absurd h4 h; exact absurd h4.2 h3; exact h4.2⟩
    · simp only [if_neg h2]
      by_cases h3 : c ≥ 48
      · simp only [if_pos h3]; congr 1; exact decide_eq_decide.2 ⟨fun h4 => .inr (.inr ⟨by omega, h4⟩), fun h4 => by rcases h4 with h4 | h4 | h4; exact absurd h4 h; exact absurd h4.1 h2; exact h4.2⟩
      · simp only [if_neg h3]; congr 1; symm; exact decide_eq_false (fun h4 => by rcases h4 with h4 | h4 | h4; exact absurd h4 h; exact absurd h4.1 h2; exact absurd h4.1 h3)

theorem spec_Words_l (s : ByteArray) (hn : s.size < 1099511627776) : ∀ (d : Nat),
    (∀ (i : Nat) (acc : List S35), i + d = s.size → acc.length ≤ i → Ev (fun k => spec_Words.l0 k s acc (i : Int)) (acc ++ (wordsAt i none ((bytesOf s).drop i)).map (mkWord s))) ∧
    (∀ (i j : Nat) (acc : List S35), i + d = s.size → j < i → acc.length ≤ j → Ev (fun k => spec_Words.l1 k s acc (j : Int) (i : Int)) (acc ++ (wordsAt i (some j) ((bytesOf s).drop i)).map (mkWord s))) := by
  have hb := bytesOf_length s
  intro d
  induction d with
  | zero =>
    have h0 : ∀ (i : Nat) (acc : List S35), s.size ≤ i → Ev (fun k => spec_Words.l0 k s acc (i : Int)) acc := by
      intro i acc hi
      refine Ev.step (fun k => spec_Words.l0.eq_2 _ _ _ _) ?_
      simp only [if_neg (show ¬ ((i : Int) < (s.size : Int)) by omega)]
      exact Ev.now _
    constructor
    · intro i acc hi hacc
      rw [List.drop_of_length_le (by omega)]
      simpa [wordsAt] using h0 i acc (by omega)
    · intro i j acc hi hj hacc
      rw [List.drop_of_length_le (by omega)]
      refine Ev.step (fun k => spec_Words.l1.eq_2 _ _ _ _ _) ?_
      simp only [if_neg (show ¬ ((i : Int) < (s.size : Int)) by omega), if_neg (show ¬ (i : Int) = (j : Int) by omega), if_pos (show 0 ≤ (j : Int) by omega), if_pos (show (j : Int) ≤ (i : Int) by omega), if_pos (show (i : Int) ≤ (s.size : Int) by omega), if_pos (show acc.length < 4398046511104 by omega), toNat_cast]
      exact h0 i _ (by omega)
  | succ d ih =>
    have hr : ∀ c ∈ bytesOf s, 0 ≤ c ∧ c ≤ 255 := bytesOf_range s
    have hstep : ∀ (i : Nat) (acc : List S35), i + (d + 1) = s.size → acc.length ≤ i → Ev (fun k => spec_Words.l0 k s acc (i : Int)) (acc ++ (wordsAt i none ((bytesOf s).drop i)).map (mkWord s)) := by
      intro i acc hi hacc
      have hc := hr (bytesOf s)[i] (List.getElem_mem _)
      refine Ev.step (fun k => spec_Words.l0.eq_2 _ _ _ _) ?_
      simp only [if_pos (show ((i : Int) < (s.size : Int)) by omega)]
      refine Ev.step (fun k => spec_Words.l1.eq_2 _ _ _ _ _) ?_
      simp only [if_pos (show ((i : Int) < (s.size : Int)) by omega), if_pos (show 0 ≤ (i : Int) by omega), bt_get s i (by omega), spec_l1Part_eq _ hc.1 hc.2, Option.bind_some, decide_eq_true_eq, wsucc i (by omega), if_true]
      rw [drop_get (bytesOf s) i (by omega)]
      by_cases hw : wordP (bytesOf s)[i]
      · simp only [if_pos hw, wordsAt]
        exact ih.2 (i + 1) i acc (by omega) (by omega) (by omega)
      · simp only [if_neg hw, wordsAt]
        exact ih.1 (i + 1) acc (by omega) (by omega)
    refine ⟨hstep, ?_⟩
    intro i j acc hi hj hacc
    have hc := hr (bytesOf s)[i] (List.getElem_mem _)
    refine Ev.step (fun k => spec_Words.l1.eq_2 _ _ _ _ _) ?_
    simp only [if_pos (show ((i : Int) < (s.size : Int)) by omega), if_pos (show 0 ≤ (i : Int) by omega), bt_get s i (by omega), spec_l1Part_eq _ hc.1 hc.2, Option.bind_some, decide_eq_true_eq, wsucc i (by omega)]
    have hd := drop_get (bytesOf s) i (by omega)
    by_cases hw : wordP (bytesOf s)[i]
    · rw [hd]
      simp only [if_pos hw, wordsAt]
      exact ih.2 (i + 1) j acc (by omega) (by omega) (by omega)
    · simp only [if_neg hw, if_neg (show ¬ (i : Int) = (j : Int) by omega), if_pos (show 0 ≤ (j : Int) by omega), if_pos (show (j : Int) ≤ (i : Int) by omega), if_pos (show (i : Int) ≤ (s.size : Int) by omega), if_pos (show acc.length < 4398046511104 by omega), toNat_cast]
      have := hstep i (acc ++ [mkWord s (j, i)]) hi (by simp; omega)
      rw [hd] at this ⊢
      simp only [wordsAt, if_neg hw, List.append_assoc] at this ⊢
      exact this
theorem spec_Words_ev (s : ByteArray) (hn : s.size < 1099511627776) : Ev (fun k => spec_Words.f k s) (wordsOf s) := by
  have := (spec_Words_l s hn s.size).1 0 [] (by omega) (by simp)
  rw [List.nil_append, List.drop_zero] at this
  exact this

theorem wordsAt_length : ∀ (l : List Int) (p : Nat) (o : Option Nat), (wordsAt p o l).length ≤ l.length + (if o.isSome then 1 else 0) := by
  intro l
  induction l with
  | nil => intro p o; cases o <;> simp [wordsAt]
  | cons c cs ih =>
    intro p o
    cases o with
    | none =>
      by_cases h : wordP c
      · simp only [wordsAt, if_pos h]; have := ih (p + 1) (some p); simp at this ⊢; omega
      · simp only [wordsAt, if_neg h]; have := ih (p + 1) none; simp at this ⊢; omega
    | some st =>
      by_cases h : wordP c
      · simp only [wordsAt, if_pos h]; have := ih (p + 1) (some st); simp at this ⊢; omega
      · simp only [wordsAt, if_neg h]; have := ih (p + 1) none; simp at this ⊢; omega
theorem wordsOf_length (s : ByteArray) : (wordsOf s).length ≤ s.size := by
  unfold wordsOf
  rw [List.length_map]
  have := wordsAt_length (bytesOf s) 0 none
  rw [bytesOf_length] at this
  simpa using this

theorem FnExactWords : laws_FnExactWords.Pure := by
  intro s hs
  refine Ev.rounds (g := fun k => laws_FnExactWords.f k s) ?_
  simp only [laws_FnExactWords.f]
  by_cases hg : (s.size : Int) > 1048576
  · simp only [if_pos hg]; exact Ev.now _
  simp only [if_neg hg]
  have hl := wordsOf_length s
  refine Ev.bind (spec_Words_ev s (by omega)) ?_
  refine Ev.bind (impl_Words_ev s (by omega)) ?_
  refine Ev.bind (eqWordS_ev _ _ (by omega)) ?_
  simp only [decide_true, if_true]
  refine Ev.bind (markWordS_ev _ (by omega)) ?_
  refine Ev.bind (heldWordS_ev _ (by omega)) ?_
  simp only [if_neg (show ¬ (1 + 3 * ((wordsOf s).length : Int) < 0) by omega), if_true]
  refine Ev.bind (impl_Words_ev s (by omega)) ?_
  refine Ev.bind (eqWordS_ev _ _ (by omega)) ?_
  simp only [decide_true, if_true]
  refine Ev.bind (heldWordS_ev _ (by omega)) ?_
  simp only [if_neg (show ¬ (1 + 3 * ((wordsOf s).length : Int) < 0) by omega), if_true]
  exact Ev.now _

end Go.Proofs.Ytalddeknbjfgcaa.Pure
