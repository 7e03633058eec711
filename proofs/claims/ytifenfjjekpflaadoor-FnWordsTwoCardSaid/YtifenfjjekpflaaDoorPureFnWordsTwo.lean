/- The plain law of FnWordsTwo: whatever the input, the printed function of this law answers true after enough rounds; conditions: only the sizes and kinds that the law's Pure states. -/
import Derived.Test.YtifenfjjekpflaaDoorSFnWordsTwo
namespace Go.Proofs.YtifenfjjekpflaaDoor.Pure
open Go.RowKit Go.Proofs.YtifenfjjekpflaaDoor.PFnWordsTwo Go.Proofs.YtifenfjjekpflaaDoorW.PrintWords Go.Proofs.YtifenfjjekpflaaDoorW.PrintLast Go.Proofs.YtifenfjjekpflaaDoorW.PrintMore
set_option linter.unusedVariables false
set_option linter.unusedSimpArgs false

theorem drop_get {α : Type} (l : List α) (j : Nat) (h : j < l.length) : l.drop j = l[j] :: l.drop (j + 1) := List.drop_eq_getElem_cons h

theorem wrap_id {x : Int} (h0 : -9223372036854775808 ≤ x) (h1 : x ≤ 9223372036854775807) : wrap64 x = x := by unfold wrap64; omega

theorem wsucc (j : Nat) (h : j < 9223372036854775807) : wrap64 ((j : Int) + 1) = ((j + 1 : Nat) : Int) := by rw [wrap_id (by omega) (by omega)]; omega

theorem rd_word_get (l : List S29) (j : Nat) (h : j < l.length) : rd_T29 l (j : Int) = l[j] := by
  unfold rd_T29; simp [List.getD_eq_getElem?_getD, List.getElem?_eq_getElem h]

theorem bytesOf_range (s : ByteArray) : ∀ c ∈ bytesOf s, 0 ≤ c ∧ c ≤ 255 := by
  intro c hc
  obtain ⟨b, _, rfl⟩ := List.mem_map.1 hc
  have := b.toNat_lt
  omega

theorem bytesOf_strOfNums (l : List Int) (h : ∀ c ∈ l, 0 ≤ c ∧ c ≤ 255) : bytesOf (strOfNums l) = l := by
  unfold bytesOf
  rw [strOfNums_data, List.map_map]
  conv => rhs; rw [← List.map_id l]
  apply List.map_congr_left
  intro c hc
  have := h c hc
  simp only [Function.comp, id]
  rw [UInt8.toNat_ofNat']
  omega

theorem foldC_range (c : Int) (h : 0 ≤ c ∧ c ≤ 255) : 0 ≤ foldC c ∧ foldC c ≤ 255 := by
  unfold foldC; split <;> omega

def foldB (s : ByteArray) : ByteArray := strOfNums ((bytesOf s).map foldC)

theorem bytesOf_foldB (s : ByteArray) : bytesOf (foldB s) = (bytesOf s).map foldC := by
  unfold foldB
  apply bytesOf_strOfNums
  intro c hc
  obtain ⟨b, hb, rfl⟩ := List.mem_map.1 hc
  exact foldC_range b (bytesOf_range s b hb)

theorem foldB_size (s : ByteArray) : (foldB s).size = s.size := by
  rw [← bytesOf_length, bytesOf_foldB, List.length_map, bytesOf_length]

theorem impl_Fold_eq (s : ByteArray) (hn : s.size < 70368744177664) : impl_Fold.f s = some (foldB s) := by
  unfold impl_Fold.f
  rw [if_pos (by omega)]; rfl

theorem mem_drop_step {α : Type} {l : List α} {j : Nat} {n : α} (h : j < l.length) : n ∈ l.drop j ↔ n = l[j] ∨ n ∈ l.drop (j + 1) := by
  rw [List.drop_eq_getElem_cons h, List.mem_cons]

theorem toList_data (s : ByteArray) : s.toList = s.data.toList := by
  exact ByteArray.toList_eq s

theorem toList_inj {a b : ByteArray} : a.toList = b.toList ↔ a = b := by
  rw [toList_data, toList_data]
  constructor
  · intro h; exact ByteArray.ext (Array.toList_inj.1 h)
  · rintro rfl; rfl

theorem rdOf_get {α : Type} (d : α) (l : List α) (j : Nat) (h : j < l.length) : rdOf d l (j : Int) = l[j] := by
  unfold rdOf; simp [List.getD_eq_getElem?_getD, List.getElem?_eq_getElem h]

theorem rdOf_str (l : List ByteArray) (j : Nat) (h : j < l.length) : rdOf ByteArray.empty l (j : Int) = l[j] := rdOf_get _ l j h

open Classical in
theorem slices_Index_string_string_l0 (l : List ByteArray) (n : ByteArray) (hn : l.length < 4611686018427387904) : ∀ (d i : Nat), i + d = l.length → ∃ r : Int, Ev (fun k => slices_Index_string_string.l0 k l n (l.length : Int) (i : Int)) r ∧ decide (r ≥ 0) = decide (n ∈ l.drop i) := by
  intro d
  induction d with
  | zero =>
    intro i hi
    refine ⟨-1, Ev.step (fun k => slices_Index_string_string.l0.eq_2 _ _ _ _ _) ?_, ?_⟩
    · simp only [if_neg (show ¬ ((i : Int) < (l.length : Int)) by omega)]
      exact Ev.now _
    · rw [List.drop_of_length_le (by omega)]; simp
  | succ d ih =>
    intro i hi
    have hs := mem_drop_step (l := l) (n := n) (show i < l.length by omega)
    by_cases h : n = l[i]
    · refine ⟨(i : Int), Ev.step (fun k => slices_Index_string_string.l0.eq_2 _ _ _ _ _) ?_, ?_⟩
      · simp only [if_pos (show ((i : Int) < (l.length : Int)) by omega), if_pos (show 0 ≤ (i : Int) by omega), rdOf_str l i (by omega), toList_inj, if_pos h]
        exact Ev.now _
      · rw [decide_eq_true (hs.2 (.inl h))]; simp
    · obtain ⟨r, h1, h2⟩ := ih (i + 1) (by omega)
      refine ⟨r, Ev.step (fun k => slices_Index_string_string.l0.eq_2 _ _ _ _ _) ?_, ?_⟩
      · simp only [if_pos (show ((i : Int) < (l.length : Int)) by omega), if_pos (show 0 ≤ (i : Int) by omega), rdOf_str l i (by omega), toList_inj, if_neg h, wsucc i (by omega)]
        exact h1
      · rw [h2]; exact decide_eq_decide.2 (hs.trans ⟨fun h1 => h1.resolve_left h, .inr⟩).symm

open Classical in
theorem slices_Contains_string_string_ev (l : List ByteArray) (n : ByteArray) (hn : l.length < 4611686018427387904) : Ev (fun k => slices_Contains_string_string.f k l n) (decide (n ∈ l)) := by
  obtain ⟨r, h1, h2⟩ := slices_Index_string_string_l0 l n hn l.length 0 (by omega)
  simp only [slices_Contains_string_string.f]
  refine Ev.bind (a := r) h1 ?_
  rw [h2]; exact Ev.now _

open Classical in
noncomputable def unStop (w : ByteArray) : ByteArray := if w ∈ stopsL then (⟨#[]⟩ : ByteArray) else w

open Classical in
theorem impl_Stem_j0 (x : ByteArray) (hx : x.size ≤ 100) (b : Bool) (hb : b = true → 1 ≤ x.size) : Ev (fun k => impl_Stem.j0 k x (x.size : Int) b) (unStop (if b = true then x.extract 0 (x.size - 1) else x)) := by
  refine Ev.step (fun k => impl_Stem.j0.eq_2 _ _ _ _) ?_
  cases b with
  | false =>
    simp only [if_neg (show ¬ (false = true) by decide)]
    refine Ev.bind (slices_Contains_string_string_ev stopsL x (by decide)) ?_
    unfold unStop
    by_cases h : x ∈ stopsL
    · simp only [if_pos h, decide_eq_true h, if_true]; exact Ev.now _
    · simp only [if_neg h, decide_eq_false h, if_neg (show ¬ (false = true) by decide)]; exact Ev.now _
  | true =>
    have h1 := hb rfl
    simp only [if_true, wrap_id (x := (x.size : Int) - 1) (by omega) (by omega), if_pos (show 0 ≤ (x.size : Int) - 1 by omega), if_pos (show (x.size : Int) - 1 ≤ (x.size : Int) by omega), show ((x.size : Int) - 1).toNat = x.size - 1 by omega]
    refine Ev.bind (slices_Contains_string_string_ev stopsL _ (by decide)) ?_
    unfold unStop
    by_cases h : x.extract 0 (x.size - 1) ∈ stopsL
    · simp only [if_pos h, decide_eq_true h, if_true]; exact Ev.now _
    · simp only [if_neg h, decide_eq_false h, if_neg (show ¬ (false = true) by decide)]; exact Ev.now _

def cut12 (w : ByteArray) : ByteArray := w.extract 0 (min w.size 12)

theorem extract_size (w : ByteArray) (n : Nat) (h : n ≤ w.size) : (w.extract 0 n).size = n := by rw [ByteArray.size_extract]; omega

theorem cut12_size (w : ByteArray) : (cut12 w).size = min w.size 12 := extract_size w _ (Nat.min_le_left _ _)

def lessS (w : ByteArray) : Bool := decide (w.size > 3 ∧ bt w ((w.size : Int) - 1) = 115 ∧ bt w ((w.size : Int) - 2) ≠ 115)

def noS (w : ByteArray) : ByteArray := if lessS w = true then w.extract 0 (w.size - 1) else w

noncomputable def stemB (s : ByteArray) : ByteArray := unStop (noS (cut12 (foldB s)))

theorem impl_Stem_ev (s : ByteArray) (hs : s.size < 70368744177664) : Ev (fun k => impl_Stem.f k s) (stemB s) := by
  simp only [impl_Stem.f]
  have hz := foldB_size s
  simp only [impl_Fold_eq s hs, Option.bind_some]
  have hmn : mn ((foldB s).size : Int) 12 = ((min (foldB s).size 12 : Nat) : Int) := by unfold mn; split <;> omega
  simp only [hmn, if_pos (show (0 : Int) ≤ ((min (foldB s).size 12 : Nat) : Int) by omega), if_pos (show ((min (foldB s).size 12 : Nat) : Int) ≤ ((foldB s).size : Int) by omega), Int.toNat_natCast]
  have hc : (foldB s).extract 0 (min (foldB s).size 12) = cut12 (foldB s) := rfl
  have hx : (cut12 (foldB s)).size ≤ 100 := by rw [cut12_size]; omega
  simp only [hc]
  unfold stemB
  generalize cut12 (foldB s) = x at hx
  have key : ∀ b : Bool, b = lessS x → Ev (fun k => impl_Stem.j0 k x (x.size : Int) b) (unStop (noS x)) := by
    intro b hb
    have := impl_Stem_j0 x hx b (fun h => by
      rw [hb] at h
      have := (of_decide_eq_true h).1
      omega)
    rw [hb] at this ⊢
    exact this
  by_cases h3 : (x.size : Int) > 3
  · simp only [if_pos h3, wrap_id (x := (x.size : Int) - 1) (by omega) (by omega), wrap_id (x := (x.size : Int) - 2) (by omega) (by omega), if_pos (show 0 ≤ (x.size : Int) - 1 by omega), if_pos (show (x.size : Int) - 1 < (x.size : Int) by omega), if_pos (show 0 ≤ (x.size : Int) - 2 by omega), if_pos (show (x.size : Int) - 2 < (x.size : Int) by omega)]
    by_cases h4 : bt x ((x.size : Int) - 1) = 115
    · simp only [if_pos h4]
      refine key _ ?_
      unfold lessS
      by_cases h5 : bt x ((x.size : Int) - 2) = 115
      · rw [decide_eq_false (fun h => h.2.2 h5)]; simp [h5]
      · rw [decide_eq_true ⟨by omega, h4, h5⟩]; simp [h5]
    · simp only [if_neg h4]
      refine key _ ?_
      unfold lessS
      rw [decide_eq_false (fun h => h4 h.2.1)]
  · simp only [if_neg h3]
    refine key _ ?_
    unfold lessS
    rw [decide_eq_false (fun h => by have := h.1; omega)]

theorem impl_Terms_l0 (l : List S29) (hn : l.length ≤ 1048578) (hs : ∀ w ∈ l, w.f0.size < 70368744177664) : ∀ (d i : Nat) (acc : List ByteArray), i + d = l.length → acc.length ≤ i →
    Ev (fun k => impl_Terms.l0 k acc l (l.length : Int) (i : Int)) (acc ++ (l.drop i).map (fun w => stemB w.f0)) := by
  intro d
  induction d with
  | zero =>
    intro i acc hi ha
    refine Ev.step (fun k => impl_Terms.l0.eq_2 _ _ _ _ _) ?_
    simp only [if_neg (show ¬ ((i : Int) < (l.length : Int)) by omega)]
    rw [List.drop_eq_nil_of_le (by omega), List.map_nil, List.append_nil]; exact Ev.now _
  | succ d ih =>
    intro i acc hi ha
    refine Ev.step (fun k => impl_Terms.l0.eq_2 _ _ _ _ _) ?_
    simp only [if_pos (show ((i : Int) < (l.length : Int)) by omega), if_pos (show 0 ≤ (i : Int) by omega), rd_word_get l i (by omega), wsucc i (by omega)]
    refine Ev.bind (impl_Stem_ev _ (hs _ (List.getElem_mem (by omega)))) ?_
    simp only [if_pos (show acc.length < 8796093022208 by omega)]
    have := ih (i + 1) (acc ++ [stemB l[i].f0]) (by omega) (by simp; omega)
    rw [drop_get l i (by omega), List.map_cons]
    rw [List.append_assoc] at this
    exact this

def digP (c : Int) : Prop := 48 ≤ c ∧ c ≤ 57
instance (c : Int) : Decidable (digP c) := by unfold digP; infer_instance

def lowP (c : Int) : Prop := 97 ≤ c ∧ c ≤ 122
instance (c : Int) : Decidable (lowP c) := by unfold lowP; infer_instance

def upP (c : Int) : Prop := 65 ≤ c ∧ c ≤ 90
instance (c : Int) : Decidable (upP c) := by unfold upP; infer_instance

def wordP (c : Int) : Prop := upP c ∨ lowP c ∨ digP c
instance (c : Int) : Decidable (wordP c) := by unfold wordP; infer_instance

/-- Where the words of a row of bytes stand: from position p on; st: where the open word began. -/
def wordsAt : Nat → Option Nat → List Int → List (Nat × Nat)
  | _, none, [] => []
  | p, some st, [] => [(st, p)]
  | p, none, c :: cs => if wordP c then wordsAt (p + 1) (some p) cs else wordsAt (p + 1) none cs
  | p, some st, c :: cs => if wordP c then wordsAt (p + 1) (some st) cs else (st, p) :: wordsAt (p + 1) none cs

def mkWord (s : ByteArray) (q : Nat × Nat) : S29 := ⟨s.extract q.1 q.2, (q.1 : Int), (q.2 : Int)⟩

def wordsOf (s : ByteArray) : List S29 := (wordsAt 0 none (bytesOf s)).map (mkWord s)

noncomputable def termsB (s : ByteArray) : List ByteArray := (wordsOf s).map (fun w => stemB w.f0)

theorem extract_size_le (s : ByteArray) (a b : Nat) : (s.extract a b).size ≤ s.size := by rw [ByteArray.size_extract]; omega

theorem wordsOf_small (s : ByteArray) : ∀ w ∈ wordsOf s, w.f0.size ≤ s.size := by
  intro w hw
  obtain ⟨q, _, rfl⟩ := List.mem_map.1 hw
  exact extract_size_le s _ _

theorem rd_get (l : List Int) (j : Nat) (h : j < l.length) : rd l (j : Int) = l[j] := by
  unfold rd; simp [List.getD_eq_getElem?_getD, List.getElem?_eq_getElem h]

theorem bt_get (s : ByteArray) (j : Nat) (h : j < (bytesOf s).length) : bt s (j : Int) = (bytesOf s)[j] := by
  rw [← rd_bytesOf, rd_get _ _ h]

theorem toNat_cast (i : Nat) : ((i : Int)).toNat = i := by simp

theorem impl_digit_eq (a : Int) : impl_digit.f a = some (decide (digP a)) := by
  unfold impl_digit.f digP
  by_cases h : a ≥ 48
  · rw [if_pos h]; congr 1; exact decide_eq_decide.2 (by omega)
  · rw [if_neg h]; congr 1; symm; exact decide_eq_false (by omega)

theorem impl_lower_eq (a : Int) : impl_lower.f a = some (decide (lowP a)) := by
  unfold impl_lower.f lowP
  by_cases h : a ≥ 97
  · rw [if_pos h]; congr 1; exact decide_eq_decide.2 (by omega)
  · rw [if_neg h]; congr 1; symm; exact decide_eq_false (by omega)

theorem impl_upper_eq (a : Int) : impl_upper.f a = some (decide (upP a)) := by
  unfold impl_upper.f upP
  by_cases h : a ≥ 65
  · rw [if_pos h]; congr 1; exact decide_eq_decide.2 (by omega)
  · rw [if_neg h]; congr 1; symm; exact decide_eq_false (by omega)

theorem impl_wordByte_eq (c : Int) : impl_wordByte.f c = some (decide (wordP c)) := by
  simp only [impl_wordByte.f, impl_upper_eq, impl_lower_eq, impl_digit_eq, Option.bind_some, decide_eq_true_eq]
  by_cases h1 : upP c
  · rw [if_pos h1, decide_eq_true (show wordP c from .inl h1)]
  · rw [if_neg h1]
    by_cases h2 : lowP c
    · rw [if_pos h2, decide_eq_true (show wordP c from .inr (.inl h2))]
    · rw [if_neg h2]; congr 1; exact decide_eq_decide.2 ⟨fun h => .inr (.inr h), fun h => (h.resolve_left h1).resolve_left h2⟩

theorem impl_Words_l (s : ByteArray) (hn : s.size < 1099511627776) : ∀ (d : Nat),
    (∀ (i : Nat) (acc : List S29), i + d = s.size → acc.length ≤ i → Ev (fun k => impl_Words.l0 k s acc (i : Int)) (acc ++ (wordsAt i none ((bytesOf s).drop i)).map (mkWord s))) ∧
    (∀ (i j : Nat) (acc : List S29), i + d = s.size → j < i → acc.length ≤ i → Ev (fun k => impl_Words.l1 k s acc (i : Int) (j : Int)) (acc ++ (wordsAt i (some j) ((bytesOf s).drop i)).map (mkWord s))) := by
  have hb := bytesOf_length s
  intro d
  induction d with
  | zero =>
    have h0 : ∀ (i : Nat) (acc : List S29), s.size ≤ i → Ev (fun k => impl_Words.l0 k s acc (i : Int)) acc := by
      intro i acc hi
      refine Ev.step (fun k => impl_Words.l0.eq_2 _ _ _ _) ?_
      simp only [if_neg (show ¬ ((i : Int) < (s.size : Int)) by omega)]
      exact Ev.now _
    constructor
    · intro i acc hi hacc
      rw [List.drop_of_length_le (by omega)]
      simpa [wordsAt] using h0 i acc (by omega)
    · intro i j acc hi hj hacc
      rw [List.drop_of_length_le (by omega)]
      refine Ev.step (fun k => impl_Words.l1.eq_2 _ _ _ _ _) ?_
      simp only [if_neg (show ¬ ((i : Int) < (s.size : Int)) by omega), if_pos (show (i : Int) > (j : Int) by omega), if_pos (show 0 ≤ (j : Int) by omega), if_pos (show (j : Int) ≤ (i : Int) by omega), if_pos (show (i : Int) ≤ (s.size : Int) by omega), if_pos (show acc.length < 4398046511104 by omega), wsucc i (by omega), toNat_cast]
      exact h0 (i + 1) _ (by omega)
  | succ d ih =>
    have h1 : ∀ (i j : Nat) (acc : List S29), i + (d + 1) = s.size → j ≤ i → acc.length ≤ i → Ev (fun k => impl_Words.l1 k s acc (i : Int) (j : Int)) (acc ++ (wordsAt i (if j < i then some j else none) ((bytesOf s).drop i)).map (mkWord s)) := by
      intro i j acc hi hj hacc
      refine Ev.step (fun k => impl_Words.l1.eq_2 _ _ _ _ _) ?_
      simp only [if_pos (show ((i : Int) < (s.size : Int)) by omega), if_pos (show 0 ≤ (i : Int) by omega), bt_get s i (by omega), impl_wordByte_eq, Option.bind_some, decide_eq_true_eq, wsucc i (by omega)]
      rw [drop_get (bytesOf s) i (by omega)]
      by_cases hw : wordP (bytesOf s)[i]
      · simp only [if_pos hw]
        have := ih.2 (i + 1) j acc (by omega) (by omega) (by omega)
        by_cases hji : j < i
        · simpa only [if_pos hji, wordsAt, if_pos hw] using this
        · obtain rfl : j = i := by omega
          simpa only [if_neg hji, wordsAt, if_pos hw] using this
      · simp only [if_neg hw]
        by_cases hji : j < i
        · simp only [if_pos hji, if_pos (show (i : Int) > (j : Int) by omega), if_pos (show 0 ≤ (j : Int) by omega), if_pos (show (j : Int) ≤ (i : Int) by omega), if_pos (show (i : Int) ≤ (s.size : Int) by omega), if_pos (show acc.length < 4398046511104 by omega), toNat_cast, wordsAt, if_neg hw]
          have := ih.1 (i + 1) (acc ++ [mkWord s (j, i)]) (by omega) (by simp; omega)
          rw [List.append_assoc] at this
          exact this
        · simp only [if_neg hji, if_neg (show ¬ (i : Int) > (j : Int) by omega), wordsAt, if_neg hw]
          exact ih.1 (i + 1) acc (by omega) (by omega)
    constructor
    · intro i acc hi hacc
      refine Ev.step (fun k => impl_Words.l0.eq_2 _ _ _ _) ?_
      simp only [if_pos (show ((i : Int) < (s.size : Int)) by omega)]
      have := h1 i i acc hi (Nat.le_refl _) hacc
      simpa only [if_neg (Nat.lt_irrefl i)] using this
    · intro i j acc hi hj hacc
      have := h1 i j acc hi (by omega) hacc
      simpa only [if_pos hj] using this

theorem impl_Words_ev (s : ByteArray) (hn : s.size < 1099511627776) : Ev (fun k => impl_Words.f k s) (wordsOf s) := by
  have := (impl_Words_l s hn s.size).1 0 [] (by omega) (by simp)
  rw [List.nil_append, List.drop_zero] at this
  exact this

theorem wordsAt_length : ∀ (l : List Int) (p : Nat) (o : Option Nat), (wordsAt p o l).length ≤ l.length + (if o.isSome then 1 else 0) := by
  intro l
  induction l with
  | nil => intro p o; cases o <;> simp [wordsAt]
  | cons c cs ih =>
    intro p o
    cases o with
    | none =>
      by_cases h : wordP c
      · simp only [wordsAt, if_pos h]; have := ih (p + 1) (some p); simp at this ⊢; omega
      · simp only [wordsAt, if_neg h]; have := ih (p + 1) none; simp at this ⊢; omega
    | some st =>
      by_cases h : wordP c
      · simp only [wordsAt, if_pos h]; have := ih (p + 1) (some st); simp at this ⊢; omega
      · simp only [wordsAt, if_neg h]; have := ih (p + 1) none; simp at this ⊢; omega

theorem wordsOf_length (s : ByteArray) : (wordsOf s).length ≤ s.size := by
  unfold wordsOf
  rw [List.length_map]
  have := wordsAt_length (bytesOf s) 0 none
  rw [bytesOf_length] at this
  simpa using this

theorem impl_Terms_ev (s : ByteArray) (hs : s.size ≤ 1048578) : Ev (fun k => impl_Terms.f k s) (termsB s) := by
  simp only [impl_Terms.f]
  have hl := wordsOf_length s
  refine Ev.bind (impl_Words_ev s (by omega)) ?_
  exact impl_Terms_l0 (wordsOf s) (by omega) (fun w hw => by have := wordsOf_small s w hw; omega) (wordsOf s).length 0 [] (by omega) (by simp)

theorem foldC_eq (c : Int) : foldC c = if upP c then c + 32 else c := by
  unfold foldC
  by_cases h : 65 ≤ c ∧ c ≤ 90
  · rw [if_pos h, if_pos (show upP c from h)]
  · rw [if_neg h, if_neg (show ¬ upP c from h)]

theorem spec_l1Small_eq (c : Int) (h0 : 0 ≤ c) (h1 : c ≤ 255) : spec_l1Small.f c = some (if upP c then c + 32 else c) := by
  unfold spec_l1Small.f
  by_cases h : upP c
  · have h' : 65 ≤ c ∧ c ≤ 90 := h
    rw [if_pos h'.1, if_pos h'.2, if_pos h]; congr 1; omega
  · have h' : ¬ (65 ≤ c ∧ c ≤ 90) := h
    rw [if_neg h]
    by_cases h2 : c ≥ 65
    · rw [if_pos h2, if_neg (by omega)]
    · rw [if_neg h2]

theorem spec_Fold_l0 (s : ByteArray) (hn : s.size < 70368744177664) : ∀ (d i : Nat) (acc : List Int), i + d = s.size → acc.length ≤ i →
    Ev (fun k => spec_Fold.l0 k s acc (i : Int)) (strOfNums (acc ++ ((bytesOf s).drop i).map foldC)) := by
  have hb := bytesOf_length s
  have hr := bytesOf_range s
  intro d
  induction d with
  | zero =>
    intro i acc hi hacc
    refine Ev.step (fun k => spec_Fold.l0.eq_2 _ _ _ _) ?_
    simp only [if_neg (show ¬ ((i : Int) < (s.size : Int)) by omega)]
    rw [List.drop_of_length_le (by omega), List.map_nil, List.append_nil]
    exact Ev.now _
  | succ d ih =>
    intro i acc hi hacc
    have hc := hr (bytesOf s)[i] (List.getElem_mem _)
    refine Ev.step (fun k => spec_Fold.l0.eq_2 _ _ _ _) ?_
    simp only [if_pos (show ((i : Int) < (s.size : Int)) by omega), if_pos (show 0 ≤ (i : Int) by omega), bt_get s i (by omega), spec_l1Small_eq _ hc.1 hc.2, Option.bind_some, if_pos (show acc.length < 140737488355328 by omega), wsucc i (by omega), ← foldC_eq]
    have := ih (i + 1) (acc ++ [foldC (bytesOf s)[i]]) (by omega) (by simp; omega)
    rw [drop_get (bytesOf s) i (by omega), List.map_cons]
    rw [List.append_assoc, List.singleton_append] at this
    exact this

theorem spec_Fold_ev (s : ByteArray) (hn : s.size < 70368744177664) : Ev (fun k => spec_Fold.f k s) (foldB s) := by
  have := spec_Fold_l0 s hn s.size 0 [] (by omega) (by simp)
  rw [List.nil_append, List.drop_zero] at this
  exact this

theorem ev_false {g : Nat → Option Bool} {p : Prop} [Decidable p] (h : ¬ p) (k : Ev g false) : Ev g (decide p) := by
  rw [decide_eq_false h]; exact k

theorem ev_prop {g : Nat → Option Bool} {p q : Prop} [Decidable p] [Decidable q] (h : p ↔ q) (k : Ev g (decide p)) : Ev g (decide q) := by
  have : decide p = decide q := decide_eq_decide.2 h
  rw [← this]; exact k

theorem ev_true {g : Nat → Option Bool} {p : Prop} [Decidable p] (h : p) (k : Ev g true) : Ev g (decide p) := by
  rw [decide_eq_true h]; exact k

open Classical in
theorem spec_l1Stop_l0 (s : ByteArray) (l : List ByteArray) (hl : l.length < 100) : ∀ (d i : Nat), i + d = l.length → Ev (fun k => spec_l1Stop.l0 k s l (i : Int)) (decide (s ∈ l.drop i)) := by
  intro d
  induction d with
  | zero =>
    intro i hi
    refine Ev.step (fun k => spec_l1Stop.l0.eq_2 _ _ _ _) ?_
    simp only [if_neg (show ¬ ((i : Int) < (l.length : Int)) by omega)]
    refine ev_false (fun h => ?_) (Ev.now _)
    rw [List.drop_eq_nil_of_le (by omega)] at h; simp at h
  | succ d ih =>
    intro i hi
    refine Ev.step (fun k => spec_l1Stop.l0.eq_2 _ _ _ _) ?_
    have e := List.drop_eq_getElem_cons (l := l) (i := i) (by omega)
    simp only [if_pos (show ((i : Int) < (l.length : Int)) by omega), if_pos (show 0 ≤ (i : Int) by omega), rdOf_str l i (by omega), wsucc i (by omega), toList_inj]
    by_cases h : l[i] = s
    · simp only [if_pos h]
      exact ev_true (by rw [e, h]; exact List.mem_cons_self ..) (Ev.now _)
    · simp only [if_neg h]
      refine ev_prop ?_ (ih (i + 1) (by omega))
      rw [e, List.mem_cons]
      exact ⟨.inr, fun h2 => h2.resolve_left (fun h3 => h h3.symm)⟩

open Classical in
theorem spec_l1Stop_ev (s : ByteArray) : Ev (fun k => spec_l1Stop.f k s) (decide (s ∈ stopsL)) := by
  simp only [spec_l1Stop.f]
  exact spec_l1Stop_l0 s stopsL (by decide) 6 0 rfl

open Classical in
theorem spec_Stem_j1 (x : ByteArray) (hx : x.size ≤ 100) (b : Bool) (hb : b = true → 1 ≤ x.size) : Ev (fun k => spec_Stem.j1 k x (x.size : Int) b) (unStop (if b = true then x.extract 0 (x.size - 1) else x)) := by
  refine Ev.step (fun k => spec_Stem.j1.eq_2 _ _ _ _) ?_
  cases b with
  | false =>
    simp only [if_neg (show ¬ (false = true) by decide)]
    refine Ev.bind (spec_l1Stop_ev x) ?_
    unfold unStop
    by_cases h : x ∈ stopsL
    · simp only [if_pos h, decide_eq_true h, if_true]; exact Ev.now _
    · simp only [if_neg h, decide_eq_false h, if_neg (show ¬ (false = true) by decide)]; exact Ev.now _
  | true =>
    have h1 := hb rfl
    simp only [if_true, wrap_id (x := (x.size : Int) - 1) (by omega) (by omega), if_pos (show 0 ≤ (x.size : Int) - 1 by omega), if_pos (show (x.size : Int) - 1 ≤ (x.size : Int) by omega), show ((x.size : Int) - 1).toNat = x.size - 1 by omega]
    refine Ev.bind (spec_l1Stop_ev _) ?_
    unfold unStop
    by_cases h : x.extract 0 (x.size - 1) ∈ stopsL
    · simp only [if_pos h, decide_eq_true h, if_true]; exact Ev.now _
    · simp only [if_neg h, decide_eq_false h, if_neg (show ¬ (false = true) by decide)]; exact Ev.now _

theorem spec_Stem_j0 (x : ByteArray) (hx : x.size ≤ 100) : Ev (fun k => spec_Stem.j0 k x) (unStop (noS x)) := by
  refine Ev.step (fun k => spec_Stem.j0.eq_2 _ _) ?_
  have key : ∀ b : Bool, b = lessS x → Ev (fun k => spec_Stem.j1 k x (x.size : Int) b) (unStop (noS x)) := by
    intro b hb
    have := spec_Stem_j1 x hx b (fun h => by
      rw [hb] at h
      have := (of_decide_eq_true h).1
      omega)
    rw [hb] at this ⊢
    exact this
  by_cases h3 : (x.size : Int) > 3
  · simp only [if_pos h3, wrap_id (x := (x.size : Int) - 1) (by omega) (by omega), wrap_id (x := (x.size : Int) - 2) (by omega) (by omega), if_pos (show 0 ≤ (x.size : Int) - 1 by omega), if_pos (show (x.size : Int) - 1 < (x.size : Int) by omega), if_pos (show 0 ≤ (x.size : Int) - 2 by omega), if_pos (show (x.size : Int) - 2 < (x.size : Int) by omega)]
    by_cases h4 : bt x ((x.size : Int) - 1) = 115
    · simp only [if_pos h4]
      refine key _ ?_
      unfold lessS
      by_cases h5 : bt x ((x.size : Int) - 2) = 115
      · rw [decide_eq_false (fun h => h.2.2 h5)]; simp [h5]
      · rw [decide_eq_true ⟨by omega, h4, h5⟩]; simp [h5]
    · simp only [if_neg h4]
      refine key _ ?_
      unfold lessS
      rw [decide_eq_false (fun h => h4 h.2.1)]
  · simp only [if_neg h3]
    refine key _ ?_
    unfold lessS
    rw [decide_eq_false (fun h => by have := h.1; omega)]

theorem cut12_long (w : ByteArray) (h : 12 < w.size) : cut12 w = w.extract 0 12 := by unfold cut12; rw [Nat.min_eq_right (by omega)]

theorem extract_self (w : ByteArray) : w.extract 0 w.size = w := by
  apply ByteArray.ext
  rw [ByteArray.data_extract]
  exact Array.extract_size

theorem cut12_short (w : ByteArray) (h : w.size ≤ 12) : cut12 w = w := by unfold cut12; rw [Nat.min_eq_left h]; exact extract_self w

theorem spec_Stem_ev (s : ByteArray) (hs : s.size < 70368744177664) : Ev (fun k => spec_Stem.f k s) (stemB s) := by
  simp only [spec_Stem.f]
  have hz := foldB_size s
  refine Ev.bind (spec_Fold_ev s hs) ?_
  unfold stemB
  by_cases h : ((foldB s).size : Int) > 12
  · simp only [if_pos h, if_pos (show (0 : Int) ≤ 12 by omega), if_pos (show (12 : Int) ≤ ((foldB s).size : Int) by omega)]
    rw [cut12_long _ (by omega)]
    exact spec_Stem_j0 _ (by rw [extract_size _ _ (by omega)]; omega)
  · simp only [if_neg h]
    rw [cut12_short _ (by omega)]
    exact spec_Stem_j0 _ (by omega)

theorem spec_Terms_l0 (l : List S29) (hn : l.length ≤ 1048578) (hs : ∀ w ∈ l, w.f0.size < 70368744177664) : ∀ (d i : Nat) (acc : List ByteArray), i + d = l.length → acc.length ≤ i →
    Ev (fun k => spec_Terms.l0 k acc l (i : Int)) (acc ++ (l.drop i).map (fun w => stemB w.f0)) := by
  intro d
  induction d with
  | zero =>
    intro i acc hi ha
    refine Ev.step (fun k => spec_Terms.l0.eq_2 _ _ _ _) ?_
    simp only [if_neg (show ¬ ((i : Int) < (l.length : Int)) by omega)]
    rw [List.drop_eq_nil_of_le (by omega), List.map_nil, List.append_nil]; exact Ev.now _
  | succ d ih =>
    intro i acc hi ha
    refine Ev.step (fun k => spec_Terms.l0.eq_2 _ _ _ _) ?_
    simp only [if_pos (show ((i : Int) < (l.length : Int)) by omega), if_pos (show 0 ≤ (i : Int) by omega), rd_word_get l i (by omega), wsucc i (by omega)]
    refine Ev.bind (spec_Stem_ev _ (hs _ (List.getElem_mem (by omega)))) ?_
    simp only [if_pos (show acc.length < 8796093022208 by omega)]
    have := ih (i + 1) (acc ++ [stemB l[i].f0]) (by omega) (by simp; omega)
    rw [drop_get l i (by omega), List.map_cons]
    rw [List.append_assoc] at this
    exact this

theorem spec_l1Part_eq (c : Int) (h0 : 0 ≤ c) (h1 : c ≤ 255) : spec_l1Part.f c = some (decide (wordP c)) := by
  simp only [spec_l1Part.f, spec_l1Small_eq c h0 h1, Option.bind_some]
  by_cases h : upP c
  · have h' : 65 ≤ c ∧ c ≤ 90 := h
    simp only [if_pos h, if_pos (show c + 32 ≥ 97 by omega), if_pos (show c + 32 ≤ 122 by omega)]
    congr 1; symm; exact decide_eq_true (.inl h)
  · have h' : ¬ (65 ≤ c ∧ c ≤ 90) := h
    simp only [if_neg h]
    by_cases h2 : c ≥ 97
    · simp only [if_pos h2]
      by_cases h3 : c ≤ 122
      · simp only [if_pos h3]; congr 1; symm; exact decide_eq_true (.inr (.inl ⟨h2, h3⟩))
      · simp only [if_neg h3, if_pos (show c ≥ 48 by omega)]; congr 1; exact decide_eq_decide.2 ⟨fun h4 => .inr (.inr ⟨by omega, h4⟩), fun h4 => by rcases h4 with h4 | h4 | h4; exact absurd h4 h; exact absurd h4.2 h3; exact h4.2⟩
    · simp only [if_neg h2]
      by_cases h3 : c ≥ 48
      · simp only [if_pos h3]; congr 1; exact decide_eq_decide.2 ⟨fun h4 => .inr (.inr ⟨by omega, h4⟩), fun h4 => by rcases h4 with h4 | h4 | h4; exact absurd h4 h; exact absurd h4.1 h2; exact h4.2⟩
      · simp only [if_neg h3]; congr 1; symm; exact decide_eq_false (fun h4 => by rcases h4 with h4 | h4 | h4; exact absurd h4 h; exact absurd h4.1 h2; exact absurd h4.1 h3)

theorem spec_Words_l (s : ByteArray) (hn : s.size < 1099511627776) : ∀ (d : Nat),
    (∀ (i : Nat) (acc : List S29), i + d = s.size → acc.length ≤ i → Ev (fun k => spec_Words.l0 k s acc (i : Int)) (acc ++ (wordsAt i none ((bytesOf s).drop i)).map (mkWord s))) ∧
    (∀ (i j : Nat) (acc : List S29), i + d = s.size → j < i → acc.length ≤ j → Ev (fun k => spec_Words.l1 k s acc (j : Int) (i : Int)) (acc ++ (wordsAt i (some j) ((bytesOf s).drop i)).map (mkWord s))) := by
  have hb := bytesOf_length s
  intro d
  induction d with
  | zero =>
    have h0 : ∀ (i : Nat) (acc : List S29), s.size ≤ i → Ev (fun k => spec_Words.l0 k s acc (i : Int)) acc := by
      intro i acc hi
      refine Ev.step (fun k => spec_Words.l0.eq_2 _ _ _ _) ?_
      simp only [if_neg (show ¬ ((i : Int) < (s.size : Int)) by omega)]
      exact Ev.now _
    constructor
    · intro i acc hi hacc
      rw [List.drop_of_length_le (by omega)]
      simpa [wordsAt] using h0 i acc (by omega)
    · intro i j acc hi hj hacc
      rw [List.drop_of_length_le (by omega)]
      refine Ev.step (fun k => spec_Words.l1.eq_2 _ _ _ _ _) ?_
      simp only [if_neg (show ¬ ((i : Int) < (s.size : Int)) by omega), if_neg (show ¬ (i : Int) = (j : Int) by omega), if_pos (show 0 ≤ (j : Int) by omega), if_pos (show (j : Int) ≤ (i : Int) by omega), if_pos (show (i : Int) ≤ (s.size : Int) by omega), if_pos (show acc.length < 4398046511104 by omega), toNat_cast]
      exact h0 i _ (by omega)
  | succ d ih =>
    have hr : ∀ c ∈ bytesOf s, 0 ≤ c ∧ c ≤ 255 := bytesOf_range s
    have hstep : ∀ (i : Nat) (acc : List S29), i + (d + 1) = s.size → acc.length ≤ i → Ev (fun k => spec_Words.l0 k s acc (i : Int)) (acc ++ (wordsAt i none ((bytesOf s).drop i)).map (mkWord s)) := by
      intro i acc hi hacc
      have hc := hr (bytesOf s)[i] (List.getElem_mem _)
      refine Ev.step (fun k => spec_Words.l0.eq_2 _ _ _ _) ?_
      simp only [if_pos (show ((i : Int) < (s.size : Int)) by omega)]
      refine Ev.step (fun k => spec_Words.l1.eq_2 _ _ _ _ _) ?_
      simp only [if_pos (show ((i : Int) < (s.size : Int)) by omega), if_pos (show 0 ≤ (i : Int) by omega), bt_get s i (by omega), spec_l1Part_eq _ hc.1 hc.2, Option.bind_some, decide_eq_true_eq, wsucc i (by omega), if_true]
      rw [drop_get (bytesOf s) i (by omega)]
      by_cases hw : wordP (bytesOf s)[i]
      · simp only [if_pos hw, wordsAt]
        exact ih.2 (i + 1) i acc (by omega) (by omega) (by omega)
      · simp only [if_neg hw, wordsAt]
        exact ih.1 (i + 1) acc (by omega) (by omega)
    refine ⟨hstep, ?_⟩
    intro i j acc hi hj hacc
    have hc := hr (bytesOf s)[i] (List.getElem_mem _)
    refine Ev.step (fun k => spec_Words.l1.eq_2 _ _ _ _ _) ?_
    simp only [if_pos (show ((i : Int) < (s.size : Int)) by omega), if_pos (show 0 ≤ (i : Int) by omega), bt_get s i (by omega), spec_l1Part_eq _ hc.1 hc.2, Option.bind_some, decide_eq_true_eq, wsucc i (by omega)]
    have hd := drop_get (bytesOf s) i (by omega)
    by_cases hw : wordP (bytesOf s)[i]
    · rw [hd]
      simp only [if_pos hw, wordsAt]
      exact ih.2 (i + 1) j acc (by omega) (by omega) (by omega)
    · simp only [if_neg hw, if_neg (show ¬ (i : Int) = (j : Int) by omega), if_pos (show 0 ≤ (j : Int) by omega), if_pos (show (j : Int) ≤ (i : Int) by omega), if_pos (show (i : Int) ≤ (s.size : Int) by omega), if_pos (show acc.length < 4398046511104 by omega), toNat_cast]
      have := hstep i (acc ++ [mkWord s (j, i)]) hi (by simp; omega)
      rw [hd] at this ⊢
      simp only [wordsAt, if_neg hw, List.append_assoc] at this ⊢
      exact this

theorem spec_Words_ev (s : ByteArray) (hn : s.size < 1099511627776) : Ev (fun k => spec_Words.f k s) (wordsOf s) := by
  have := (spec_Words_l s hn s.size).1 0 [] (by omega) (by simp)
  rw [List.nil_append, List.drop_zero] at this
  exact this

theorem spec_Terms_ev (s : ByteArray) (hs : s.size ≤ 1048578) : Ev (fun k => spec_Terms.f k s) (termsB s) := by
  simp only [spec_Terms.f]
  have hl := wordsOf_length s
  refine Ev.bind (spec_Words_ev s (by omega)) ?_
  exact spec_Terms_l0 (wordsOf s) (by omega) (fun w hw => by have := wordsOf_small s w hw; omega) (wordsOf s).length 0 [] (by omega) (by simp)

theorem termsB_length (s : ByteArray) : (termsB s).length = (wordsOf s).length := List.length_map ..

/-- What a code reads as: at most 2000 bytes. -/
def CodeOk (s : List Int) : Prop := s.length ≤ 2000 ∧ ∀ c ∈ s, 0 ≤ c ∧ c ≤ 255

theorem l1Open_eq (s : List Int) (hb : ∀ c ∈ s, 0 ≤ c ∧ c ≤ 255) : ∃ s', spec_l1Open.f s = some (s', 0) ∧ CodeOk s' := by
  unfold spec_l1Open.f
  by_cases h : (s.length : Int) > 2000
  · rw [if_pos h, if_pos (by omega)]
    exact ⟨_, rfl, by rw [List.length_take]; omega, fun c hc => hb c (List.mem_of_mem_take hc)⟩
  · rw [if_neg h]
    exact ⟨_, rfl, by omega, hb⟩

theorem CodeOk.byte {s : List Int} (h : CodeOk s) (i : Int) : 0 ≤ rd s i ∧ rd s i ≤ 255 := by
  unfold rd
  rw [List.getD_eq_getElem?_getD]
  rcases Nat.lt_or_ge i.toNat s.length with hi | hi
  · rw [List.getElem?_eq_getElem hi]; exact h.2 _ (List.getElem_mem _)
  · rw [List.getElem?_eq_none hi]; simp

theorem tdiv_nn {a b : Int} (ha : 0 ≤ a) (hb : 0 < b) : 0 ≤ Int.tdiv a b ∧ Int.tdiv a b ≤ a := by
  rw [Int.tdiv_eq_ediv_of_nonneg ha]
  exact ⟨Int.ediv_nonneg ha (by omega), Int.ediv_le_self _ ha⟩

theorem tmod_nn {a b : Int} (ha : 0 ≤ a) (hb : 0 < b) : 0 ≤ Int.tmod a b ∧ Int.tmod a b < b := by
  rw [Int.tmod_eq_emod_of_nonneg ha]
  exact ⟨Int.emod_nonneg _ (by omega), Int.emod_lt_of_pos _ hb⟩

theorem xor_i64 (a b : Nat) (ha : a < 2 ^ 62) (hb : b < 2 ^ 62) : ∃ m : Nat, Go.bits .xor .i64 (a : Int) (b : Int) = (m : Int) ∧ m < 2 ^ 62 := by
  have ha' : a % 2 ^ IntKind.i64.bits = a := Nat.mod_eq_of_lt (Nat.lt_of_lt_of_le ha (by decide))
  have hb' : b % 2 ^ IntKind.i64.bits = b := Nat.mod_eq_of_lt (Nat.lt_of_lt_of_le hb (by decide))
  have hx := Nat.xor_lt_two_pow ha hb
  refine ⟨a ^^^ b, ?_, hx⟩
  simp only [Go.bits, BitVec.ofInt_natCast, BitVec.toNat_xor, BitVec.toNat_ofNat, ha', hb']
  rw [IntKind.wrap_i64]
  have : ((a ^^^ b : Nat) : Int) < 4611686018427387904 := by have := hx; omega
  omega

theorem pick_ev (s : List Int) (hs : CodeOk s) (p n : Int) (hp : 0 ≤ p) (hp1 : p ≤ 1000000) (hn : 1 ≤ n) (hn1 : n ≤ 1000000) :
    ∃ r, Ev (fun k => spec_l1Rd_pick.f k s p n) (r, p + 1) ∧ 0 ≤ r ∧ r < n := by
  simp only [spec_l1Rd_pick.f, if_neg (show ¬ n < 1 by omega), wrap_id (x := p + 1) (by omega) (by omega)]
  by_cases h0 : s.length = 0
  · refine ⟨0, Ev.step (fun k => spec_l1Rd_pick.j0.eq_2 _ _ _ _ _) ?_, by omega, by omega⟩
    simp only [show ((s.length : Int) == 0) = true by simp [h0], if_true]
    exact Ev.now _
  · have hl : 0 < (s.length : Int) := by omega
    have hb : ((s.length : Int) == 0) = false := by simp; intro h; exact h0 (by rw [h]; rfl)
    have e1 : wrap64 (p + 1 - 1) = p := by rw [wrap_id (by omega) (by omega)]; omega
    by_cases hlt : p < (s.length : Int)
    · have hc := hs.byte p
      refine ⟨Int.tmod (rd s p) n, Ev.step (fun k => spec_l1Rd_pick.j0.eq_2 _ _ _ _ _) ?_, (tmod_nn hc.1 (by omega)).1, (tmod_nn hc.1 (by omega)).2⟩
      simp only [hb, if_neg (show ¬ (false = true) by decide), e1, if_pos hlt, if_pos hp, if_neg (show ¬ n = 0 by omega), wrap_id (x := rd s p) (by omega) (by omega)]
      exact Ev.now _
    · have m1 := tmod_nn hp hl
      have e2 : wrap64 (wrap64 (p * 7) + 3) = p * 7 + 3 := by rw [wrap_id (x := p * 7) (by omega) (by omega), wrap_id (by omega) (by omega)]
      have m2 := tmod_nn (show 0 ≤ p * 7 + 3 by omega) hl
      have d1 := tdiv_nn hp hl
      obtain ⟨A, hA⟩ : ∃ A, rd s (Int.tmod p (s.length : Int)) = A := ⟨_, rfl⟩
      obtain ⟨B, hB⟩ : ∃ B, rd s (Int.tmod (p * 7 + 3) (s.length : Int)) = B := ⟨_, rfl⟩
      obtain ⟨C, hC⟩ : ∃ C, Int.tdiv p (s.length : Int) = C := ⟨_, rfl⟩
      have a1 := hs.byte (Int.tmod p (s.length : Int)); rw [hA] at a1
      have b1 := hs.byte (Int.tmod (p * 7 + 3) (s.length : Int)); rw [hB] at b1
      rw [hC] at d1
      have v1 : wrap64 (wrap64 (wrap64 (wrap64 (wrap64 A * 131) + wrap64 (wrap64 B * 1117)) + wrap64 (p * 29)) + wrap64 (wrap64 C * 53)) = A * 131 + B * 1117 + p * 29 + C * 53 := by
        rw [wrap_id (x := A) (by omega) (by omega), wrap_id (x := B) (by omega) (by omega), wrap_id (x := C) (by omega) (by omega), wrap_id (x := A * 131) (by omega) (by omega), wrap_id (x := B * 1117) (by omega) (by omega), wrap_id (x := p * 29) (by omega) (by omega), wrap_id (x := C * 53) (by omega) (by omega), wrap_id (x := A * 131 + B * 1117) (by omega) (by omega), wrap_id (x := A * 131 + B * 1117 + p * 29) (by omega) (by omega), wrap_id (by omega) (by omega)]
      obtain ⟨V, hV⟩ : ∃ V : Nat, A * 131 + B * 1117 + p * 29 + C * 53 = (V : Int) := ⟨(A * 131 + B * 1117 + p * 29 + C * 53).toNat, by omega⟩
      have hVb : V < 2 ^ 62 := by have : (2 : Nat) ^ 62 = 4611686018427387904 := by decide
                                  omega
      have hd := tdiv_nn (show 0 ≤ (V : Int) by omega) (show (0 : Int) < 64 by omega)
      obtain ⟨Q, hQ⟩ : ∃ Q : Nat, Int.tdiv (V : Int) 64 = (Q : Int) := ⟨(Int.tdiv (V : Int) 64).toNat, by omega⟩
      have hQb : Q < 2 ^ 62 := by omega
      obtain ⟨m, hm, hmb⟩ := xor_i64 V Q hVb hQb
      have e3 : wrap64 (Int.tdiv (V : Int) 64) = (Q : Int) := by
        have : (2 : Nat) ^ 62 = 4611686018427387904 := by decide
        rw [hQ, wrap_id (by omega) (by omega)]
      have mm := tmod_nn (show 0 ≤ (m : Int) by omega) (show 0 < n by omega)
      refine ⟨Int.tmod (m : Int) n, Ev.step (fun k => spec_l1Rd_pick.j0.eq_2 _ _ _ _ _) ?_, mm.1, mm.2⟩
      simp only [hb, if_neg (show ¬ (false = true) by decide), e1, if_neg hlt, if_neg (show ¬ (s.length : Int) = 0 by omega), if_pos m1.1, if_pos m1.2, e2, if_pos m2.1, if_pos m2.2, if_neg (show ¬ n = 0 by omega), hA, hB, hC, v1, hV, e3, hm]
      exact Ev.now _

theorem of_ev (s : List Int) (hs : CodeOk s) (p : Int) (l : List ByteArray) (hp : 0 ≤ p) (hp1 : p ≤ 1000000) (hl : 1 ≤ l.length) (hl1 : l.length ≤ 1000000) :
    ∃ r, Ev (fun k => spec_l1Rd_of.f k s p l) (r, p + 1) ∧ r ∈ l := by
  obtain ⟨i, hi, h0, h1⟩ := pick_ev s hs p (l.length : Int) hp hp1 (by omega) (by omega)
  obtain ⟨j, rfl⟩ : ∃ j : Nat, i = (j : Int) := ⟨i.toNat, by omega⟩
  refine ⟨l[j]'(by omega), ?_, List.getElem_mem _⟩
  simp only [spec_l1Rd_of.f]
  refine Ev.bind hi ?_
  simp only [if_pos h0, if_pos h1, rdOf_get _ l j (by omega)]
  exact Ev.now _

theorem wpred (j : Nat) (h : j < 9223372036854775807) : wrap64 (((j + 1 : Nat) : Int) - 1) = (j : Int) := by rw [wrap_id (by omega) (by omega)]; omega

def wordList : List ByteArray := [(⟨#[114, 101, 100]⟩ : ByteArray), (⟨#[82, 101, 100]⟩ : ByteArray), (⟨#[97, 112, 112, 108, 101]⟩ : ByteArray), (⟨#[97, 112, 112, 108, 101, 115]⟩ : ByteArray), (⟨#[112, 105, 101]⟩ : ByteArray), (⟨#[116, 104, 101]⟩ : ByteArray), (⟨#[111, 102]⟩ : ByteArray), (⟨#[103, 108, 97, 115, 115]⟩ : ByteArray), (⟨#[98, 117, 115]⟩ : ByteArray), (⟨#[116, 114, 101, 101]⟩ : ByteArray), (⟨#[116, 114, 101, 101, 115]⟩ : ByteArray), (⟨#[55]⟩ : ByteArray), (⟨#[118, 101, 114, 121, 108, 111, 110, 103, 119, 111, 114, 100, 105, 110, 100, 101, 101, 100]⟩ : ByteArray), (⟨#[97]⟩ : ByteArray)]

theorem l11Word_ev (s : List Int) (hs : CodeOk s) (p : Int) (hp : 0 ≤ p) (hp1 : p ≤ 1000000) : ∃ r, Ev (fun k => spec_l11Word.f k s p) (r, p + 1) ∧ r ∈ wordList := by
  obtain ⟨r, hr, hm⟩ := of_ev s hs p wordList hp hp1 (by decide) (by decide)
  exact ⟨r, Ev.bind hr (Ev.now _), hm⟩

theorem word_size {r : ByteArray} (h : r ∈ wordList) : r.size ≤ 18 := by
  have : ∀ x ∈ wordList, x.size ≤ 18 := by decide
  exact this r h

theorem l11Text_l0 (s : List Int) (hs : CodeOk s) : ∀ (n : Nat) (p : Int) (out : ByteArray), 0 ≤ p → p + 2 * n ≤ 900000 → n ≤ 1000 → out.size + 20 * n ≤ 100000 →
    ∃ r q, Ev (fun k => spec_l11Text.l0 k out (n : Int) s p) (r, q) ∧ p ≤ q ∧ q ≤ p + 2 * n ∧ r.size ≤ out.size + 20 * n := by
  intro n
  induction n with
  | zero =>
    intro p out hp hb hn ho
    refine ⟨out, p, Ev.step (fun k => spec_l11Text.l0.eq_2 _ _ _ _ _) ?_, by omega, by omega, by omega⟩
    simp only [if_neg (show ¬ (((0 : Nat) : Int) > 0) by omega)]
    exact Ev.now _
  | succ n ih =>
    intro p out hp hb hn ho
    obtain ⟨w, hw, hwm⟩ := l11Word_ev s hs p hp (by omega)
    have hws := word_size hwm
    obtain ⟨x, hx, hxm⟩ := of_ev s hs (p + 1) (([(⟨#[32]⟩ : ByteArray), (⟨#[44, 32]⟩ : ByteArray), (⟨#[45]⟩ : ByteArray), (⟨#[32]⟩ : ByteArray), (⟨#[46]⟩ : ByteArray)] : List ByteArray)) (by omega) (by omega) (by decide) (by decide)
    have hxs : x.size ≤ 2 := by
      have h : ∀ x ∈ ([(⟨#[32]⟩ : ByteArray), (⟨#[44, 32]⟩ : ByteArray), (⟨#[45]⟩ : ByteArray), (⟨#[32]⟩ : ByteArray), (⟨#[46]⟩ : ByteArray)] : List ByteArray), x.size ≤ 2 := by decide
      exact h x hxm
    obtain ⟨r, q, hr, h1, h2, h3⟩ := ih (p + 1 + 1) ((out ++ w) ++ x) (by omega) (by omega) (by omega) (by simp only [ByteArray.size_append]; omega)
    refine ⟨r, q, Ev.step (fun k => spec_l11Text.l0.eq_2 _ _ _ _ _) ?_, by omega, by omega, by simp only [ByteArray.size_append] at h3; omega⟩
    simp only [if_pos (show (((n + 1 : Nat) : Int) > 0) by omega)]
    refine Ev.bind hw ?_
    simp only [if_pos (show out.size + w.size ≤ 9223372036854775807 by omega)]
    refine Ev.bind hx ?_
    simp only [if_pos (show (out ++ w).size + x.size ≤ 9223372036854775807 by simp only [ByteArray.size_append]; omega), wpred n (by omega)]
    exact hr

theorem l11Text_ev (s : List Int) (hs : CodeOk s) (p : Int) (hp : 0 ≤ p) (hp1 : p ≤ 800000) : ∃ r q, Ev (fun k => spec_l11Text.f k s p) (r, q) ∧ p ≤ q ∧ q ≤ p + 20 ∧ r.size ≤ 200 := by
  obtain ⟨i, hi, h0, h1⟩ := pick_ev s hs p 6 hp (by omega) (by omega) (by omega)
  obtain ⟨j, rfl⟩ : ∃ j : Nat, i = (j : Int) := ⟨i.toNat, by omega⟩
  obtain ⟨r, q, hr, h2, h3, h4⟩ := l11Text_l0 s hs j (p + 1) (⟨#[]⟩ : ByteArray) (by omega) (by omega) (by omega) (by show 0 + 20 * j ≤ 100000; omega)
  have e0 : (⟨#[]⟩ : ByteArray).size = 0 := rfl
  refine ⟨r, q, ?_, by omega, by omega, by omega⟩
  simp only [spec_l11Text.f]
  exact Ev.bind hi hr

theorem l1Many_l0 : ∀ (d n : Nat) (x out : ByteArray), n < 2 ^ d → d ≤ 20 → x.size * 2 ^ d ≤ 1099511627776 → out.size + x.size * n ≤ 1099511627776 → ∃ r, Ev (fun k => spec_l1Many.l0 k x (n : Int) out) r ∧ r.size = out.size + x.size * n := by
  intro d
  induction d with
  | zero =>
    intro n x out hn hd hx ho
    obtain rfl : n = 0 := by simpa using hn
    refine ⟨out, Ev.step (fun k => spec_l1Many.l0.eq_2 _ _ _ _) ?_, by omega⟩
    simp only [if_neg (show ¬ (((0 : Nat) : Int) > 0) by omega)]
    exact Ev.now _
  | succ d ih =>
    intro n x out hn hd hx ho
    have hp : 2 ^ (d + 1) = 2 * 2 ^ d := by rw [Nat.pow_succ, Nat.mul_comm]
    have hb : n < 1048576 := Nat.lt_of_lt_of_le hn (Nat.pow_le_pow_right (Nat.succ_pos 1) hd)
    rw [hp, ← Nat.mul_assoc, Nat.mul_comm x.size 2] at hx
    rw [hp] at hn
    have hd1 : 0 < 2 ^ d := Nat.pow_pos (by decide)
    have hxs : x.size ≤ 2 * x.size * 2 ^ d := Nat.le_trans (by omega) (Nat.le_mul_of_pos_right _ hd1)
    by_cases h0 : n = 0
    · subst h0
      refine ⟨out, Ev.step (fun k => spec_l1Many.l0.eq_2 _ _ _ _) ?_, by omega⟩
      simp only [if_neg (show ¬ (((0 : Nat) : Int) > 0) by omega)]
      exact Ev.now _
    · have e1 : Int.tmod (n : Int) 2 = ((n % 2 : Nat) : Int) := by rw [Int.tmod_eq_emod_of_nonneg (by omega)]; omega
      have e2 : wrap64 (Int.tdiv (n : Int) 2) = ((n / 2 : Nat) : Int) := by
        rw [Int.tdiv_eq_ediv_of_nonneg (by omega), wrap_id (by omega) (by omega)]; omega
      have hs2 : (x ++ x).size = 2 * x.size := by rw [ByteArray.size_append]; omega
      have hq : n / 2 < 2 ^ d := by omega
      by_cases h1 : n % 2 = 1
      · have hm : x.size * n = 2 * x.size * (n / 2) + x.size := by
          have hn2 : n = 2 * (n / 2) + 1 := by omega
          conv => lhs; rw [hn2]
          rw [Nat.mul_add, Nat.mul_one, ← Nat.mul_assoc, Nat.mul_comm x.size 2]
        obtain ⟨r, hr, hrs⟩ := ih (n / 2) (x ++ x) (out ++ x) hq (by omega) (by rw [hs2]; exact hx) (by rw [hs2, ByteArray.size_append]; omega)
        refine ⟨r, Ev.step (fun k => spec_l1Many.l0.eq_2 _ _ _ _) ?_, ?_⟩
        · simp only [if_pos (show ((n : Int) > 0) by omega), e1, e2, if_pos (show ((n % 2 : Nat) : Int) = 1 by omega), if_pos (show out.size + x.size ≤ 9223372036854775807 by omega), if_pos (show x.size + x.size ≤ 9223372036854775807 by omega)]
          exact hr
        · rw [hs2, ByteArray.size_append] at hrs
          omega
      · have hm : x.size * n = 2 * x.size * (n / 2) := by
          have hn2 : n = 2 * (n / 2) := by omega
          conv => lhs; rw [hn2]
          rw [← Nat.mul_assoc, Nat.mul_comm x.size 2]
        obtain ⟨r, hr, hrs⟩ := ih (n / 2) (x ++ x) out hq (by omega) (by rw [hs2]; exact hx) (by rw [hs2]; omega)
        refine ⟨r, Ev.step (fun k => spec_l1Many.l0.eq_2 _ _ _ _) ?_, ?_⟩
        · simp only [if_pos (show ((n : Int) > 0) by omega), e1, e2, if_neg (show ¬ ((n % 2 : Nat) : Int) = 1 by omega), if_pos (show x.size + x.size ≤ 9223372036854775807 by omega)]
          exact hr
        · rw [hs2] at hrs
          omega

theorem l11AnyText_ev (s : List Int) (hs : CodeOk s) (p : Int) (hp : 0 ≤ p) (hp1 : p ≤ 800000 - 10) : ∃ r q, Ev (fun k => spec_l11AnyText.f k s p) (r, q) ∧ p ≤ q ∧ q ≤ p + 30 ∧ r.size ≤ 300 := by
  obtain ⟨i, hi, h0, h1⟩ := pick_ev s hs p 14 hp (by omega) (by omega) (by omega)
  simp only [spec_l11AnyText.f]
  by_cases c0 : i = 0
  · obtain ⟨j, hj, h2, h3⟩ := pick_ev s hs (p + 1) 2 (by omega) (by omega) (by omega) (by omega)
    obtain ⟨m, hm⟩ : ∃ m : Nat, 60 + j = (m : Int) := ⟨(60 + j).toNat, by omega⟩
    have e1 : (⟨#[120]⟩ : ByteArray).size = 1 := rfl
    obtain ⟨r, hr, hrs⟩ := l1Many_l0 7 m (⟨#[120]⟩ : ByteArray) (⟨#[]⟩ : ByteArray) (by omega) (by decide) (by decide) (by rw [e1]; show 0 + 1 * m ≤ _; omega)
    have e0 : (⟨#[]⟩ : ByteArray).size = 0 := rfl
    rw [e0, e1, Nat.one_mul] at hrs
    refine ⟨r, p + 1 + 1, Ev.bind hi ?_, by omega, by omega, by omega⟩
    simp only [if_pos c0]
    refine Ev.bind hj ?_
    simp only [hm, wrap_id (x := (m : Int)) (by omega) (by omega)]
    exact Ev.bind (show Ev (fun k => spec_l1Many.f k _ _) r from hr) (Ev.now _)
  · by_cases c1 : i = 1
    · obtain ⟨t, q, ht, h2, h3, h4⟩ := l11Text_ev s hs (p + 1) (by omega) (by omega)
      obtain ⟨x, hx, hxm⟩ := of_ev s hs q (([(⟨#[10]⟩ : ByteArray), (⟨#[1]⟩ : ByteArray), (⟨#[127]⟩ : ByteArray)] : List ByteArray)) (by omega) (by omega) (by decide) (by decide)
      have hxs : x.size ≤ 1 := by
        have h : ∀ x ∈ ([(⟨#[10]⟩ : ByteArray), (⟨#[1]⟩ : ByteArray), (⟨#[127]⟩ : ByteArray)] : List ByteArray), x.size ≤ 1 := by decide
        exact h x hxm
      refine ⟨t ++ x, q + 1, Ev.bind hi ?_, by omega, by omega, by rw [ByteArray.size_append]; omega⟩
      simp only [if_neg c0, if_pos c1]
      refine Ev.bind ht ?_
      refine Ev.bind hx ?_
      simp only [if_pos (show t.size + x.size ≤ 9223372036854775807 by omega)]
      exact Ev.now _
    · obtain ⟨t, q, ht, h2, h3, h4⟩ := l11Text_ev s hs (p + 1) (by omega) (by omega)
      refine ⟨t, q, Ev.bind hi ?_, by omega, by omega, by omega⟩
      simp only [if_neg c0, if_neg c1]
      exact Ev.bind ht (Ev.now _)

theorem u8_range {l : List Int} (h : ∀ x ∈ l, (Lit.int .u8 x).wf = true) : ∀ c ∈ l, 0 ≤ c ∧ c ≤ 255 := by
  intro c hc
  have := h c hc
  simp [Lit.wf, IntKind.min, IntKind.max, IntKind.bits, IntKind.signed] at this
  omega

theorem DrawWords_ev (l : List Int) (h : ∀ x ∈ l, (Lit.int .u8 x).wf = true) : ∃ s, Ev (fun k => spec_DrawWords.f k l) s ∧ s.size ≤ 300 := by
  obtain ⟨s', h1, hs⟩ := l1Open_eq l (u8_range h)
  obtain ⟨r, q, hr, _, _, hl⟩ := l11AnyText_ev s' hs 0 (by omega) (by omega)
  refine ⟨r, ?_, hl⟩
  simp only [spec_DrawWords.f, h1, Option.bind_some]
  exact Ev.bind hr (Ev.now _)

theorem drop_eq_step {α : Type} {a b : List α} {j : Nat} (ha : j < a.length) (hb : j < b.length) : a.drop j = b.drop j ↔ a[j] = b[j] ∧ a.drop (j + 1) = b.drop (j + 1) := by
  rw [List.drop_eq_getElem_cons ha, List.drop_eq_getElem_cons hb, List.cons.injEq]

open Classical in
theorem sdTexts_l0 (a b : List ByteArray) (hn : a.length < 4611686018427387904) (hl : a.length = b.length) : ∀ (d i : Nat), i + d = a.length → Ev (fun k => laws_sdTexts.l0 k a b (i : Int)) (decide (a.drop i = b.drop i)) := by
  intro d
  induction d with
  | zero =>
    intro i hi
    refine Ev.step (fun k => laws_sdTexts.l0.eq_2 _ _ _ _) ?_
    simp only [if_neg (show ¬ ((i : Int) < (a.length : Int)) by omega)]
    exact ev_true (by rw [List.drop_eq_nil_of_le (by omega), List.drop_eq_nil_of_le (by omega)]) (Ev.now _)
  | succ d ih =>
    intro i hi
    refine Ev.step (fun k => laws_sdTexts.l0.eq_2 _ _ _ _) ?_
    simp only [if_pos (show ((i : Int) < (a.length : Int)) by omega), if_pos (show ((i : Int) < (b.length : Int)) by omega), if_pos (show 0 ≤ (i : Int) by omega), rdOf_str a i (by omega), rdOf_str b i (by omega), wsucc i (by omega), toList_inj]
    by_cases h : a[i]'(by omega) = b[i]'(by omega)
    · simp only [if_pos h]
      refine ev_prop ?_ (ih (i + 1) (by omega))
      rw [drop_eq_step (a := a) (b := b) (j := i) (by omega) (by omega)]
      exact ⟨fun h2 => ⟨h, h2⟩, fun h2 => h2.2⟩
    · simp only [if_neg h]
      refine ev_false (fun h2 => ?_) (Ev.now _)
      rw [drop_eq_step (a := a) (b := b) (j := i) (by omega) (by omega)] at h2
      exact h h2.1

open Classical in
theorem sdTexts_ev (a b : List ByteArray) (hn : a.length < 4611686018427387904) : Ev (fun k => laws_sdTexts.f k a b) (decide (a = b)) := by
  simp only [laws_sdTexts.f]
  by_cases hl : a.length = b.length
  · simp only [if_pos (show (a.length : Int) = (b.length : Int) by omega)]
    exact sdTexts_l0 a b hn hl a.length 0 (by omega)
  · simp only [if_neg (show ¬ (a.length : Int) = (b.length : Int) by omega)]
    exact ev_false (fun h => hl (by rw [h])) (Ev.now _)

theorem sdTexts_refl (a : List ByteArray) (hn : a.length < 4611686018427387904) : Ev (fun k => laws_sdTexts.f k a a) true := by
  have := sdTexts_ev a a hn
  rwa [decide_eq_true rfl] at this

theorem bytesOf_append (a b : ByteArray) : bytesOf (a ++ b) = bytesOf a ++ bytesOf b := by
  unfold bytesOf
  rw [ByteArray.data_append, Array.toList_append, List.map_append]

theorem bytesOf_inj {a b : ByteArray} (h : bytesOf a = bytesOf b) : a = b := by
  have h1 : a.data.toList = b.data.toList := by
    have hl : a.data.toList.length = b.data.toList.length := by
      have := congrArg List.length h
      simpa [bytesOf] using this
    apply List.ext_getElem hl
    intro i h1 h2
    have h3 : (bytesOf a)[i]? = (bytesOf b)[i]? := by rw [h]
    simp only [bytesOf, List.getElem?_map, List.getElem?_eq_getElem h1, List.getElem?_eq_getElem h2, Option.map_some, Option.some.injEq] at h3
    exact UInt8.toNat_inj.1 (by omega)
  exact ByteArray.ext (Array.toList_inj.1 h1)

def Good (hi : Nat) : Nat → List (Nat × Nat) → Prop
  | _, [] => True
  | lo, q :: qs => lo ≤ q.1 ∧ q.1 < q.2 ∧ q.2 ≤ hi ∧ Good hi (q.2 + 1) qs

theorem Good.mem {hi : Nat} : ∀ {l : List (Nat × Nat)} {lo : Nat}, Good hi lo l → ∀ q ∈ l, q.1 < q.2 ∧ q.2 ≤ hi
  | [], _, _, q, hq => by simp at hq
  | x :: xs, lo, h, q, hq => by
    rcases List.mem_cons.1 hq with h1 | h1
    · subst h1; exact ⟨h.2.1, h.2.2.1⟩
    · exact Good.mem h.2.2.2 q h1

theorem bytesOf_extract (s : ByteArray) (a b : Nat) : bytesOf (s.extract a b) = ((bytesOf s).drop a).take (b - a) := by
  unfold bytesOf
  rw [ByteArray.data_extract, Array.toList_extract]
  simp [List.extract, List.map_take, List.map_drop]

theorem termsB_eq (s : ByteArray) : termsB s = (wordsAt 0 none (bytesOf s)).map (fun q => stemB (s.extract q.1 q.2)) := by
  unfold termsB wordsOf
  rw [List.map_map]; rfl

theorem wordsAt_blank : ∀ (l m : List Int) (p : Nat) (o : Option Nat), wordsAt p o (l ++ 32 :: m) = wordsAt p o l ++ wordsAt (p + l.length + 1) none m
  | [], m, p, none => by
    have h : ¬ wordP 32 := by unfold wordP upP lowP digP; omega
    simp only [List.nil_append, wordsAt, if_neg h, List.length_nil, Nat.add_zero]
  | [], m, p, some st => by
    have h : ¬ wordP 32 := by unfold wordP upP lowP digP; omega
    simp only [List.nil_append, wordsAt, if_neg h, List.length_nil, Nat.add_zero, List.cons_append]
  | c :: cs, m, p, none => by
    have e : p + (cs.length + 1) + 1 = p + 1 + cs.length + 1 := by omega
    by_cases h : wordP c
    · simp only [List.cons_append, wordsAt, if_pos h, List.length_cons, e]; exact wordsAt_blank cs m (p + 1) _
    · simp only [List.cons_append, wordsAt, if_neg h, List.length_cons, e]; exact wordsAt_blank cs m (p + 1) _
  | c :: cs, m, p, some st => by
    have e : p + (cs.length + 1) + 1 = p + 1 + cs.length + 1 := by omega
    by_cases h : wordP c
    · simp only [List.cons_append, wordsAt, if_pos h, List.length_cons, e]; exact wordsAt_blank cs m (p + 1) _
    · simp only [List.cons_append, wordsAt, if_neg h, List.length_cons, e]; rw [wordsAt_blank cs m (p + 1) _]

theorem wordsAt_shift (k : Nat) : ∀ (m : List Int) (p : Nat), wordsAt (p + k) none m = (wordsAt p none m).map (fun q => (q.1 + k, q.2 + k)) ∧ ∀ st, wordsAt (p + k) (some (st + k)) m = (wordsAt p (some st) m).map (fun q => (q.1 + k, q.2 + k))
  | [], p => ⟨rfl, fun _ => rfl⟩
  | c :: cs, p => by
    have ih := wordsAt_shift k cs (p + 1)
    have e : p + k + 1 = p + 1 + k := by omega
    constructor
    · by_cases h : wordP c
      · simp only [wordsAt, if_pos h, e]; exact ih.2 p
      · simp only [wordsAt, if_neg h, e]; exact ih.1
    · intro st
      by_cases h : wordP c
      · simp only [wordsAt, if_pos h, e]; exact ih.2 st
      · simp only [wordsAt, if_neg h, e, List.map_cons]; rw [ih.1]

theorem Good.mono {hi : Nat} {lo lo' : Nat} {l : List (Nat × Nat)} (h : Good hi lo l) (hl : lo' ≤ lo) : Good hi lo' l := by
  cases l with
  | nil => trivial
  | cons q qs => exact ⟨by have := h.1; omega, h.2⟩

theorem wordsAt_good (hi : Nat) : ∀ (l : List Int) (p : Nat), p + l.length = hi → Good hi p (wordsAt p none l) ∧ ∀ st, st < p → Good hi st (wordsAt p (some st) l) := by
  intro l
  induction l with
  | nil =>
    intro p hp
    refine ⟨trivial, fun st hst => ?_⟩
    simp at hp
    exact ⟨Nat.le_refl _, hst, by show p ≤ hi; omega, trivial⟩
  | cons c cs ih =>
    intro p hp
    simp at hp
    have h := ih (p + 1) (by omega)
    constructor
    · by_cases hw : wordP c
      · simp only [wordsAt, if_pos hw]; exact h.2 p (by omega)
      · simp only [wordsAt, if_neg hw]; exact h.1.mono (by omega)
    · intro st hst
      by_cases hw : wordP c
      · simp only [wordsAt, if_pos hw]; exact h.2 st (by omega)
      · simp only [wordsAt, if_neg hw]; exact ⟨Nat.le_refl _, hst, by show p ≤ hi; omega, h.1⟩

theorem termsB_blank (a b : ByteArray) : termsB ((a ++ (⟨#[32]⟩ : ByteArray)) ++ b) = termsB a ++ termsB b := by
  have hl : bytesOf ((a ++ (⟨#[32]⟩ : ByteArray)) ++ b) = bytesOf a ++ 32 :: bytesOf b := by
    have h0 : bytesOf (⟨#[32]⟩ : ByteArray) = [32] := rfl
    rw [bytesOf_append, bytesOf_append, h0, List.append_assoc, List.singleton_append]
  have hla := bytesOf_length a
  have hlb := bytesOf_length b
  have ga := (wordsAt_good a.size (bytesOf a) 0 (by omega)).1
  rw [termsB_eq, termsB_eq, termsB_eq, hl, wordsAt_blank, List.map_append]
  refine congr (congrArg HAppend.hAppend ?_) ?_
  · refine List.map_congr_left (fun q hq => ?_)
    have hg := Good.mem ga q hq
    refine congrArg stemB (bytesOf_inj ?_)
    rw [bytesOf_extract, bytesOf_extract, hl, List.drop_append_of_le_length (by omega), List.take_append_of_le_length (by rw [List.length_drop]; omega)]
  · have hs := (wordsAt_shift ((bytesOf a).length + 1) (bytesOf b) 0).1
    rw [show 0 + (bytesOf a).length + 1 = 0 + ((bytesOf a).length + 1) by omega, hs, List.map_map]
    refine List.map_congr_left (fun q hq => ?_)
    simp only [Function.comp]
    refine congrArg stemB (bytesOf_inj ?_)
    rw [bytesOf_extract, bytesOf_extract, hl, show q.2 + ((bytesOf a).length + 1) - (q.1 + ((bytesOf a).length + 1)) = q.2 - q.1 by omega]
    refine congrArg (List.take (q.2 - q.1)) ?_
    rw [List.drop_append, List.drop_of_length_le (by omega), List.nil_append, show q.1 + ((bytesOf a).length + 1) - (bytesOf a).length = q.1 + 1 by omega, List.drop_succ_cons]

theorem FnWordsTwo : laws_FnWordsTwo.PureX := by
  intro l0 l1 hw0 hw1
  refine Ev.rounds (g := fun k => laws_FnWordsTwo.f k l0 l1) ?_
  have hj : Ev (fun k => laws_FnWordsTwo.j0 k l0 l1 true) true := by
    refine Ev.step (fun k => laws_FnWordsTwo.j0.eq_2 _ _ _ _) ?_
    simp only [if_true]; exact Ev.now _
  simp only [laws_FnWordsTwo.f]
  by_cases hg : (l0.length : Int) > 1048576
  · simp only [if_pos hg]; exact hj
  simp only [if_neg hg]
  by_cases hg1 : (l1.length : Int) > 1048576
  · simp only [decide_eq_true hg1]; exact hj
  simp only [decide_eq_false hg1]
  refine Ev.step (fun k => laws_FnWordsTwo.j0.eq_2 _ _ _ _) ?_
  simp only [if_neg (show ¬ (false = true) by decide)]
  obtain ⟨a, h1, ha⟩ := DrawWords_ev l0 hw0.2
  obtain ⟨b, h2, hb⟩ := DrawWords_ev l1 hw1.2
  have la := wordsOf_length a
  have lb := wordsOf_length b
  have la2 := termsB_length a
  have lb2 := termsB_length b
  refine Ev.bind h1 ?_
  refine Ev.bind h2 ?_
  refine Ev.bind (impl_Terms_ev a (by omega)) ?_
  refine Ev.bind (impl_Terms_ev b (by omega)) ?_
  refine Ev.bind (spec_Terms_ev a (by omega)) ?_
  refine Ev.bind (sdTexts_refl _ (by omega)) ?_
  simp only [if_true]
  refine Ev.bind (spec_Terms_ev b (by omega)) ?_
  refine Ev.bind (sdTexts_refl _ (by omega)) ?_
  simp only [Bool.not_true]
  have z1 : (a ++ (⟨#[32]⟩ : ByteArray)).size = a.size + 1 := by rw [ByteArray.size_append]; rfl
  have z2 : ((a ++ (⟨#[32]⟩ : ByteArray)) ++ b).size = a.size + 1 + b.size := by rw [ByteArray.size_append, z1]
  refine Ev.step (fun k => laws_FnWordsTwo.j1.eq_2 _ _ _ _ _ _) ?_
  simp only [if_neg (show ¬ (false = true) by decide), if_pos (show a.size + 1 ≤ 9223372036854775807 by omega), if_pos (show (a ++ (⟨#[32]⟩ : ByteArray)).size + b.size ≤ 9223372036854775807 by omega)]
  refine Ev.bind (impl_Terms_ev _ (by omega)) ?_
  simp only [Option.bind_some, List.nil_append, List.length_nil, Nat.zero_add, if_pos (show (termsB a).length < 8796093022208 by omega), if_pos (show (termsB a).length + (termsB b).length < 8796093022208 by omega), termsB_blank]
  refine Ev.bind (sdTexts_refl _ (by rw [List.length_append]; omega)) ?_
  simp only [if_true]
  refine Ev.bind (impl_Words_ev a (by omega)) ?_
  simp only [la2, beq_self_eq_true]
  exact Ev.now _

end Go.Proofs.YtifenfjjekpflaaDoor.Pure
