/- The plain law of FnExactTerms: whatever the input, the printed function of this law answers true after enough rounds; conditions: only the sizes and kinds that the law's Pure states. -/
import Derived.Test.YtifenfjjekpflaaDoorSFnExactTerms
namespace Go.Proofs.YtifenfjjekpflaaDoor.Pure
open Go.RowKit Go.Proofs.YtifenfjjekpflaaDoor.PFnExactTerms Go.Proofs.YtifenfjjekpflaaDoorW.PrintWords Go.Proofs.YtifenfjjekpflaaDoorW.PrintLast Go.Proofs.YtifenfjjekpflaaDoorW.PrintMore
set_option linter.unusedVariables false
set_option linter.unusedSimpArgs false

theorem drop_get {α : Type} (l : List α) (j : Nat) (h : j < l.length) : l.drop j = l[j] :: l.drop (j + 1) := List.drop_eq_getElem_cons h

theorem wrap_id {x : Int} (h0 : -9223372036854775808 ≤ x) (h1 : x ≤ 9223372036854775807) : wrap64 x = x := by unfold wrap64; omega

theorem wsucc (j : Nat) (h : j < 9223372036854775807) : wrap64 ((j : Int) + 1) = ((j + 1 : Nat) : Int) := by rw [wrap_id (by omega) (by omega)]; omega

theorem rd_word_get (l : List S29) (j : Nat) (h : j < l.length) : rd_T29 l (j : Int) = l[j] := by
  unfold rd_T29; simp [List.getD_eq_getElem?_getD, List.getElem?_eq_getElem h]

theorem bytesOf_range (s : ByteArray) : ∀ c ∈ bytesOf s, 0 ≤ c ∧ c ≤ 255 := by
  intro c hc
  obtain ⟨b, _, rfl⟩ := List.mem_map.1 hc
  have := b.toNat_lt
  omega

theorem bytesOf_strOfNums (l : List Int) (h : ∀ c ∈ l, 0 ≤ c ∧ c ≤ 255) : bytesOf (strOfNums l) = l := by
  unfold bytesOf
  rw [strOfNums_data, List.map_map]
  conv => rhs; rw [← List.map_id l]
  apply List.map_congr_left
  intro c hc
  have := h c hc
  simp only [Function.comp, id]
  rw [UInt8.toNat_ofNat']
  omega

theorem foldC_range (c : Int) (h : 0 ≤ c ∧ c ≤ 255) : 0 ≤ foldC c ∧ foldC c ≤ 255 := by
  unfold foldC; split <;> omega

def foldB (s : ByteArray) : ByteArray := strOfNums ((bytesOf s).map foldC)

theorem bytesOf_foldB (s : ByteArray) : bytesOf (foldB s) = (bytesOf s).map foldC := by
  unfold foldB
  apply bytesOf_strOfNums
  intro c hc
  obtain ⟨b, hb, rfl⟩ := List.mem_map.1 hc
  exact foldC_range b (bytesOf_range s b hb)

theorem foldB_size (s : ByteArray) : (foldB s).size = s.size := by
  rw [← bytesOf_length, bytesOf_foldB, List.length_map, bytesOf_length]

theorem impl_Fold_eq (s : ByteArray) (hn : s.size < 70368744177664) : impl_Fold.f s = some (foldB s) := by
  unfold impl_Fold.f
  rw [if_pos (by omega)]; rfl

theorem mem_drop_step {α : Type} {l : List α} {j : Nat} {n : α} (h : j < l.length) : n ∈ l.drop j ↔ n = l[j] ∨ n ∈ l.drop (j + 1) := by
  rw [List.drop_eq_getElem_cons h, List.mem_cons]

theorem toList_data (s : ByteArray) : s.toList = s.data.toList := by
  exact ByteArray.toList_eq s

theorem toList_inj {a b : ByteArray} : a.toList = b.toList ↔ a = b := by
  rw [toList_data, toList_data]
  constructor
  · intro h; exact ByteArray.ext (Array.toList_inj.1 h)
  · rintro rfl; rfl

theorem rdOf_get {α : Type} (d : α) (l : List α) (j : Nat) (h : j < l.length) : rdOf d l (j : Int) = l[j] := by
  unfold rdOf; simp [List.getD_eq_getElem?_getD, List.getElem?_eq_getElem h]

theorem rdOf_str (l : List ByteArray) (j : Nat) (h : j < l.length) : rdOf ByteArray.empty l (j : Int) = l[j] := rdOf_get _ l j h

open Classical in
theorem slices_Index_string_string_l0 (l : List ByteArray) (n : ByteArray) (hn : l.length < 4611686018427387904) : ∀ (d i : Nat), i + d = l.length → ∃ r : Int, Ev (fun k => slices_Index_string_string.l0 k l n (l.length : Int) (i : Int)) r ∧ decide (r ≥ 0) = decide (n ∈ l.drop i) := by
  intro d
  induction d with
  | zero =>
    intro i hi
    refine ⟨-1, Ev.step (fun k => slices_Index_string_string.l0.eq_2 _ _ _ _ _) ?_, ?_⟩
    · simp only [if_neg (show ¬ ((i : Int) < (l.length : Int)) by omega)]
      exact Ev.now _
    · rw [List.drop_of_length_le (by omega)]; simp
  | succ d ih =>
    intro i hi
    have hs := mem_drop_step (l := l) (n := n) (show i < l.length by omega)
    by_cases h : n = l[i]
    · refine ⟨(i : Int), Ev.step (fun k => slices_Index_string_string.l0.eq_2 _ _ _ _ _) ?_, ?_⟩
      · simp only [if_pos (show ((i : Int) < (l.length : Int)) by omega), if_pos (show 0 ≤ (i : Int) by omega), rdOf_str l i (by omega), toList_inj, if_pos h]
        exact Ev.now _
      · rw [decide_eq_true (hs.2 (.inl h))]; simp
    · obtain ⟨r, h1, h2⟩ := ih (i + 1) (by omega)
      refine ⟨r, Ev.step (fun k => slices_Index_string_string.l0.eq_2 _ _ _ _ _) ?_, ?_⟩
      · simp only [if_pos (show ((i : Int) < (l.length : Int)) by omega), if_pos (show 0 ≤ (i : Int) by omega), rdOf_str l i (by omega), toList_inj, if_neg h, wsucc i (by omega)]
        exact h1
      · rw [h2]; exact decide_eq_decide.2 (hs.trans ⟨fun h1 => h1.resolve_left h, .inr⟩).symm

open Classical in
theorem slices_Contains_string_string_ev (l : List ByteArray) (n : ByteArray) (hn : l.length < 4611686018427387904) : Ev (fun k => slices_Contains_string_string.f k l n) (decide (n ∈ l)) := by
  obtain ⟨r, h1, h2⟩ := slices_Index_string_string_l0 l n hn l.length 0 (by omega)
  simp only [slices_Contains_string_string.f]
  refine Ev.bind (a := r) h1 ?_
  rw [h2]; exact Ev.now _

open Classical in
noncomputable def unStop (w : ByteArray) : ByteArray := if w ∈ stopsL then (⟨#[]⟩ : ByteArray) else w

open Classical in
theorem impl_Stem_j0 (x : ByteArray) (hx : x.size ≤ 100) (b : Bool) (hb : b = true → 1 ≤ x.size) : Ev (fun k => impl_Stem.j0 k x (x.size : Int) b) (unStop (if b = true then x.extract 0 (x.size - 1) else x)) := by
  refine Ev.step (fun k => impl_Stem.j0.eq_2 _ _ _ _) ?_
  cases b with
  | false =>
    simp only [if_neg (show ¬ (false = true) by decide)]
    refine Ev.bind (slices_Contains_string_string_ev stopsL x (by decide)) ?_
    unfold unStop
    by_cases h : x ∈ stopsL
    · simp only [if_pos h, decide_eq_true h, if_true]; exact Ev.now _
    · simp only [if_neg h, decide_eq_false h, if_neg (show ¬ (false = true) by decide)]; exact Ev.now _
  | true =>
    have h1 := hb rfl
    simp only [if_true, wrap_id (x := (x.size : Int) - 1) (by omega) (by omega), if_pos (show 0 ≤ (x.size : Int) - 1 by omega), if_pos (show (x.size : Int) - 1 ≤ (x.size : Int) by omega), show ((x.size : Int) - 1).toNat = x.size - 1 by omega]
    refine Ev.bind (slices_Contains_string_string_ev stopsL _ (by decide)) ?_
    unfold unStop
    by_cases h : x.extract 0 (x.size - 1) ∈ stopsL
    · simp only [if_pos h, decide_eq_true h, if_true]; exact Ev.now _
    · simp only [if_neg h, decide_eq_false h, if_neg (show ¬ (false = true) by decide)]; exact Ev.now _

def cut12 (w : ByteArray) : ByteArray := w.extract 0 (min w.size 12)

theorem extract_size (w : ByteArray) (n : Nat) (h : n ≤ w.size) : (w.extract 0 n).size = n := by rw [ByteArray.size_extract]; omega

theorem cut12_size (w : ByteArray) : (cut12 w).size = min w.size 12 := extract_size w _ (Nat.min_le_left _ _)

def lessS (w : ByteArray) : Bool := decide (w.size > 3 ∧ bt w ((w.size : Int) - 1) = 115 ∧ bt w ((w.size : Int) - 2) ≠ 115)

def noS (w : ByteArray) : ByteArray := if lessS w = true then w.extract 0 (w.size - 1) else w

noncomputable def stemB (s : ByteArray) : ByteArray := unStop (noS (cut12 (foldB s)))

theorem impl_Stem_ev (s : ByteArray) (hs : s.size < 70368744177664) : Ev (fun k => impl_Stem.f k s) (stemB s) := by
  simp only [impl_Stem.f]
  have hz := foldB_size s
  simp only [impl_Fold_eq s hs, Option.bind_some]
  have hmn : mn ((foldB s).size : Int) 12 = ((min (foldB s).size 12 : Nat) : Int) := by unfold mn; split <;> omega
  simp only [hmn, if_pos (show (0 : Int) ≤ ((min (foldB s).size 12 : Nat) : Int) by omega), if_pos (show ((min (foldB s).size 12 : Nat) : Int) ≤ ((foldB s).size : Int) by omega), Int.toNat_natCast]
  have hc : (foldB s).extract 0 (min (foldB s).size 12) = cut12 (foldB s) := rfl
  have hx : (cut12 (foldB s)).size ≤ 100 := by rw [cut12_size]; omega
  simp only [hc]
  unfold stemB
  generalize cut12 (foldB s) = x at hx
  have key : ∀ b : Bool, b = lessS x → Ev (fun k => impl_Stem.j0 k x (x.size : Int) b) (unStop (noS x)) := by
    intro b hb
    have := impl_Stem_j0 x hx b (fun h => by
      rw [hb] at h
      have := (of_decide_eq_true h).1
      omega)
    rw [hb] at this ⊢
    exact this
  by_cases h3 : (x.size : Int) > 3
  · simp only [if_pos h3, wrap_id (x := (x.size : Int) - 1) (by omega) (by omega), wrap_id (x := (x.size : Int) - 2) (by omega) (by omega), if_pos (show 0 ≤ (x.size : Int) - 1 by omega), if_pos (show (x.size : Int) - 1 < (x.size : Int) by omega), if_pos (show 0 ≤ (x.size : Int) - 2 by omega), if_pos (show (x.size : Int) - 2 < (x.size : Int) by omega)]
    by_cases h4 : bt x ((x.size : Int) - 1) = 115
    · simp only [if_pos h4]
      refine key _ ?_
      unfold lessS
      by_cases h5 : bt x ((x.size : Int) - 2) = 115
      · rw [decide_eq_false (fun h => h.2.2 h5)]; simp [h5]
      · rw [decide_eq_true ⟨by omega, h4, h5⟩]; simp [h5]
    · simp only [if_neg h4]
      refine key _ ?_
      unfold lessS
      rw [decide_eq_false (fun h => h4 h.2.1)]
  · simp only [if_neg h3]
    refine key _ ?_
    unfold lessS
    rw [decide_eq_false (fun h => by have := h.1; omega)]

theorem impl_Terms_l0 (l : List S29) (hn : l.length ≤ 1048578) (hs : ∀ w ∈ l, w.f0.size < 70368744177664) : ∀ (d i : Nat) (acc : List ByteArray), i + d = l.length → acc.length ≤ i →
    Ev (fun k => impl_Terms.l0 k acc l (l.length : Int) (i : Int)) (acc ++ (l.drop i).map (fun w => stemB w.f0)) := by
  intro d
  induction d with
  | zero =>
    intro i acc hi ha
    refine Ev.step (fun k => impl_Terms.l0.eq_2 _ _ _ _ _) ?_
    simp only [if_neg (show ¬ ((i : Int) < (l.length : Int)) by omega)]
    rw [List.drop_eq_nil_of_le (by omega), List.map_nil, List.append_nil]; exact Ev.now _
  | succ d ih =>
    intro i acc hi ha
    refine Ev.step (fun k => impl_Terms.l0.eq_2 _ _ _ _ _) ?_
    simp only [if_pos (show ((i : Int) < (l.length : Int)) by omega), if_pos (show 0 ≤ (i : Int) by omega), rd_word_get l i (by omega), wsucc i (by omega)]
    refine Ev.bind (impl_Stem_ev _ (hs _ (List.getElem_mem (by omega)))) ?_
    simp only [if_pos (show acc.length < 8796093022208 by omega)]
    have := ih (i + 1) (acc ++ [stemB l[i].f0]) (by omega) (by simp; omega)
    rw [drop_get l i (by omega), List.map_cons]
    rw [List.append_assoc] at this
    exact this

def digP (c : Int) : Prop := 48 ≤ c ∧ c ≤ 57
instance (c : Int) : Decidable (digP c) := by unfold digP; infer_instance

def lowP (c : Int) : Prop := 97 ≤ c ∧ c ≤ 122
instance (c : Int) : Decidable (lowP c) := by unfold lowP; infer_instance

def upP (c : Int) : Prop := 65 ≤ c ∧ c ≤ 90
instance (c : Int) : Decidable (upP c) := by unfold upP; infer_instance

def wordP (c : Int) : Prop := upP c ∨ lowP c ∨ digP c
instance (c : Int) : Decidable (wordP c) := by unfold wordP; infer_instance

/-- Where the words of a row of bytes stand: from position p on; st: where the open word began. -/
def wordsAt : Nat → Option Nat → List Int → List (Nat × Nat)
  | _, none, [] => []
  | p, some st, [] => [(st, p)]
  | p, none, c :: cs => if wordP c then wordsAt (p + 1) (some p) cs else wordsAt (p + 1) none cs
  | p, some st, c :: cs => if wordP c then wordsAt (p + 1) (some st) cs else (st, p) :: wordsAt (p + 1) none cs

def mkWord (s : ByteArray) (q : Nat × Nat) : S29 := ⟨s.extract q.1 q.2, (q.1 : Int), (q.2 : Int)⟩

def wordsOf (s : ByteArray) : List S29 := (wordsAt 0 none (bytesOf s)).map (mkWord s)

noncomputable def termsB (s : ByteArray) : List ByteArray := (wordsOf s).map (fun w => stemB w.f0)

theorem extract_size_le (s : ByteArray) (a b : Nat) : (s.extract a b).size ≤ s.size := by rw [ByteArray.size_extract]; omega

theorem wordsOf_small (s : ByteArray) : ∀ w ∈ wordsOf s, w.f0.size ≤ s.size := by
  intro w hw
  obtain ⟨q, _, rfl⟩ := List.mem_map.1 hw
  exact extract_size_le s _ _

theorem rd_get (l : List Int) (j : Nat) (h : j < l.length) : rd l (j : Int) = l[j] := by
  unfold rd; simp [List.getD_eq_getElem?_getD, List.getElem?_eq_getElem h]

theorem bt_get (s : ByteArray) (j : Nat) (h : j < (bytesOf s).length) : bt s (j : Int) = (bytesOf s)[j] := by
  rw [← rd_bytesOf, rd_get _ _ h]

theorem toNat_cast (i : Nat) : ((i : Int)).toNat = i := by simp

theorem impl_digit_eq (a : Int) : impl_digit.f a = some (decide (digP a)) := by
  unfold impl_digit.f digP
  by_cases h : a ≥ 48
  · rw [if_pos h]; congr 1; exact decide_eq_decide.2 (by omega)
  · rw [if_neg h]; congr 1; symm; exact decide_eq_false (by omega)

theorem impl_lower_eq (a : Int) : impl_lower.f a = some (decide (lowP a)) := by
  unfold impl_lower.f lowP
  by_cases h : a ≥ 97
  · rw [if_pos h]; congr 1; exact decide_eq_decide.2 (by omega)
  · rw [if_neg h]; congr 1; symm; exact decide_eq_false (by omega)

theorem impl_upper_eq (a : Int) : impl_upper.f a = some (decide (upP a)) := by
  unfold impl_upper.f upP
  by_cases h : a ≥ 65
  · rw [if_pos h]; congr 1; exact decide_eq_decide.2 (by omega)
  · rw [if_neg h]; congr 1; symm; exact decide_eq_false (by omega)

theorem impl_wordByte_eq (c : Int) : impl_wordByte.f c = some (decide (wordP c)) := by
  simp only [impl_wordByte.f, impl_upper_eq, impl_lower_eq, impl_digit_eq, Option.bind_some, decide_eq_true_eq]
  by_cases h1 : upP c
  · rw [if_pos h1, decide_eq_true (show wordP c from .inl h1)]
  · rw [if_neg h1]
    by_cases h2 : lowP c
    · rw [if_pos h2, decide_eq_true (show wordP c from .inr (.inl h2))]
    · rw [if_neg h2]; congr 1; exact decide_eq_decide.2 ⟨fun h => .inr (.inr h), fun h => (h.resolve_left h1).resolve_left h2⟩

theorem impl_Words_l (s : ByteArray) (hn : s.size < 1099511627776) : ∀ (d : Nat),
    (∀ (i : Nat) (acc : List S29), i + d = s.size → acc.length ≤ i → Ev (fun k => impl_Words.l0 k s acc (i : Int)) (acc ++ (wordsAt i none ((bytesOf s).drop i)).map (mkWord s))) ∧
    (∀ (i j : Nat) (acc : List S29), i + d = s.size → j < i → acc.length ≤ i → Ev (fun k => impl_Words.l1 k s acc (i : Int) (j : Int)) (acc ++ (wordsAt i (some j) ((bytesOf s).drop i)).map (mkWord s))) := by
  have hb := bytesOf_length s
  intro d
  induction d with
  | zero =>
    have h0 : ∀ (i : Nat) (acc : List S29), s.size ≤ i → Ev (fun k => impl_Words.l0 k s acc (i : Int)) acc := by
      intro i acc hi
      refine Ev.step (fun k => impl_Words.l0.eq_2 _ _ _ _) ?_
      simp only [if_neg (show ¬ ((i : Int) < (s.size : Int)) by omega)]
      exact Ev.now _
    constructor
    · intro i acc hi hacc
      rw [List.drop_of_length_le (by omega)]
      simpa [wordsAt] using h0 i acc (by omega)
    · intro i j acc hi hj hacc
      rw [List.drop_of_length_le (by omega)]
      refine Ev.step (fun k => impl_Words.l1.eq_2 _ _ _ _ _) ?_
      simp only [if_neg (show ¬ ((i : Int) < (s.size : Int)) by omega), if_pos (show (i : Int) > (j : Int) by omega), if_pos (show 0 ≤ (j : Int) by omega), if_pos (show (j : Int) ≤ (i : Int) by omega), if_pos (show (i : Int) ≤ (s.size : Int) by omega), if_pos (show acc.length < 4398046511104 by omega), wsucc i (by omega), toNat_cast]
      exact h0 (i + 1) _ (by omega)
  | succ d ih =>
    have h1 : ∀ (i j : Nat) (acc : List S29), i + (d + 1) = s.size → j ≤ i → acc.length ≤ i → Ev (fun k => impl_Words.l1 k s acc (i : Int) (j : Int)) (acc ++ (wordsAt i (if j < i then some j else none) ((bytesOf s).drop i)).map (mkWord s)) := by
      intro i j acc hi hj hacc
      refine Ev.step (fun k => impl_Words.l1.eq_2 _ _ _ _ _) ?_
      simp only [if_pos (show ((i : Int) < (s.size : Int)) by omega), if_pos (show 0 ≤ (i : Int) by omega), bt_get s i (by omega), impl_wordByte_eq, Option.bind_some, decide_eq_true_eq, wsucc i (by omega)]
      rw [drop_get (bytesOf s) i (by omega)]
      by_cases hw : wordP (bytesOf s)[i]
      · simp only [if_pos hw]
        have := ih.2 (i + 1) j acc (by omega) (by omega) (by omega)
        by_cases hji : j < i
        · simpa only [if_pos hji, wordsAt, if_pos hw] using this
        · obtain rfl : j = i := by omega
          simpa only [if_neg hji, wordsAt, if_pos hw] using this
      · simp only [if_neg hw]
        by_cases hji : j < i
        · simp only [if_pos hji, if_pos (show (i : Int) > (j : Int) by omega), if_pos (show 0 ≤ (j : Int) by omega), if_pos (show (j : Int) ≤ (i : Int) by omega), if_pos (show (i : Int) ≤ (s.size : Int) by omega), if_pos (show acc.length < 4398046511104 by omega), toNat_cast, wordsAt, if_neg hw]
          have := ih.1 (i + 1) (acc ++ [mkWord s (j, i)]) (by omega) (by simp; omega)
          rw [List.append_assoc] at this
          exact this
        · simp only [if_neg hji, if_neg (show ¬ (i : Int) > (j : Int) by omega), wordsAt, if_neg hw]
          exact ih.1 (i + 1) acc (by omega) (by omega)
    constructor
    · intro i acc hi hacc
      refine Ev.step (fun k => impl_Words.l0.eq_2 _ _ _ _) ?_
      simp only [if_pos (show ((i : Int) < (s.size : Int)) by omega)]
      have := h1 i i acc hi (Nat.le_refl _) hacc
      simpa only [if_neg (Nat.lt_irrefl i)] using this
    · intro i j acc hi hj hacc
      have := h1 i j acc hi (by omega) hacc
      simpa only [if_pos hj] using this

theorem impl_Words_ev (s : ByteArray) (hn : s.size < 1099511627776) : Ev (fun k => impl_Words.f k s) (wordsOf s) := by
  have := (impl_Words_l s hn s.size).1 0 [] (by omega) (by simp)
  rw [List.nil_append, List.drop_zero] at this
  exact this

theorem wordsAt_length : ∀ (l : List Int) (p : Nat) (o : Option Nat), (wordsAt p o l).length ≤ l.length + (if o.isSome then 1 else 0) := by
  intro l
  induction l with
  | nil => intro p o; cases o <;> simp [wordsAt]
  | cons c cs ih =>
    intro p o
    cases o with
    | none =>
      by_cases h : wordP c
      · simp only [wordsAt, if_pos h]; have := ih (p + 1) (some p); simp at this ⊢; omega
      · simp only [wordsAt, if_neg h]; have := ih (p + 1) none; simp at this ⊢; omega
    | some st =>
      by_cases h : wordP c
      · simp only [wordsAt, if_pos h]; have := ih (p + 1) (some st); simp at this ⊢; omega
      · simp only [wordsAt, if_neg h]; have := ih (p + 1) none; simp at this ⊢; omega

theorem wordsOf_length (s : ByteArray) : (wordsOf s).length ≤ s.size := by
  unfold wordsOf
  rw [List.length_map]
  have := wordsAt_length (bytesOf s) 0 none
  rw [bytesOf_length] at this
  simpa using this

theorem impl_Terms_ev (s : ByteArray) (hs : s.size ≤ 1048578) : Ev (fun k => impl_Terms.f k s) (termsB s) := by
  simp only [impl_Terms.f]
  have hl := wordsOf_length s
  refine Ev.bind (impl_Words_ev s (by omega)) ?_
  exact impl_Terms_l0 (wordsOf s) (by omega) (fun w hw => by have := wordsOf_small s w hw; omega) (wordsOf s).length 0 [] (by omega) (by simp)

theorem foldC_eq (c : Int) : foldC c = if upP c then c + 32 else c := by
  unfold foldC
  by_cases h : 65 ≤ c ∧ c ≤ 90
  · rw [if_pos h, if_pos (show upP c from h)]
  · rw [if_neg h, if_neg (show ¬ upP c from h)]

theorem spec_l1Small_eq (c : Int) (h0 : 0 ≤ c) (h1 : c ≤ 255) : spec_l1Small.f c = some (if upP c then c + 32 else c) := by
  unfold spec_l1Small.f
  by_cases h : upP c
  · have h' : 65 ≤ c ∧ c ≤ 90 := h
    rw [if_pos h'.1, if_pos h'.2, if_pos h]; congr 1; omega
  · have h' : ¬ (65 ≤ c ∧ c ≤ 90) := h
    rw [if_neg h]
    by_cases h2 : c ≥ 65
    · rw [if_pos h2, if_neg (by omega)]
    · rw [if_neg h2]

theorem spec_Fold_l0 (s : ByteArray) (hn : s.size < 70368744177664) : ∀ (d i : Nat) (acc : List Int), i + d = s.size → acc.length ≤ i →
    Ev (fun k => spec_Fold.l0 k s acc (i : Int)) (strOfNums (acc ++ ((bytesOf s).drop i).map foldC)) := by
  have hb := bytesOf_length s
  have hr := bytesOf_range s
  intro d
  induction d with
  | zero =>
    intro i acc hi hacc
    refine Ev.step (fun k => spec_Fold.l0.eq_2 _ _ _ _) ?_
    simp only [if_neg (show ¬ ((i : Int) < (s.size : Int)) by omega)]
    rw [List.drop_of_length_le (by omega), List.map_nil, List.append_nil]
    exact Ev.now _
  | succ d ih =>
    intro i acc hi hacc
    have hc := hr (bytesOf s)[i] (List.getElem_mem _)
    refine Ev.step (fun k => spec_Fold.l0.eq_2 _ _ _ _) ?_
    simp only [if_pos (show ((i : Int) < (s.size : Int)) by omega), if_pos (show 0 ≤ (i : Int) by omega), bt_get s i (by omega), spec_l1Small_eq _ hc.1 hc.2, Option.bind_some, if_pos (show acc.length < 140737488355328 by omega), wsucc i (by omega), ← foldC_eq]
    have := ih (i + 1) (acc ++ [foldC (bytesOf s)[i]]) (by omega) (by simp; omega)
    rw [drop_get (bytesOf s) i (by omega), List.map_cons]
    rw [List.append_assoc, List.singleton_append] at this
    exact this

theorem spec_Fold_ev (s : ByteArray) (hn : s.size < 70368744177664) : Ev (fun k => spec_Fold.f k s) (foldB s) := by
  have := spec_Fold_l0 s hn s.size 0 [] (by omega) (by simp)
  rw [List.nil_append, List.drop_zero] at this
  exact this

theorem ev_false {g : Nat → Option Bool} {p : Prop} [Decidable p] (h : ¬ p) (k : Ev g false) : Ev g (decide p) := by
  rw [decide_eq_false h]; exact k

theorem ev_prop {g : Nat → Option Bool} {p q : Prop} [Decidable p] [Decidable q] (h : p ↔ q) (k : Ev g (decide p)) : Ev g (decide q) := by
  have : decide p = decide q := decide_eq_decide.2 h
  rw [← this]; exact k

theorem ev_true {g : Nat → Option Bool} {p : Prop} [Decidable p] (h : p) (k : Ev g true) : Ev g (decide p) := by
  rw [decide_eq_true h]; exact k

open Classical in
theorem spec_l1Stop_l0 (s : ByteArray) (l : List ByteArray) (hl : l.length < 100) : ∀ (d i : Nat), i + d = l.length → Ev (fun k => spec_l1Stop.l0 k s l (i : Int)) (decide (s ∈ l.drop i)) := by
  intro d
  induction d with
  | zero =>
    intro i hi
    refine Ev.step (fun k => spec_l1Stop.l0.eq_2 _ _ _ _) ?_
    simp only [if_neg (show ¬ ((i : Int) < (l.length : Int)) by omega)]
    refine ev_false (fun h => ?_) (Ev.now _)
    rw [List.drop_eq_nil_of_le (by omega)] at h; simp at h
  | succ d ih =>
    intro i hi
    refine Ev.step (fun k => spec_l1Stop.l0.eq_2 _ _ _ _) ?_
    have e := List.drop_eq_getElem_cons (l := l) (i := i) (by omega)
    simp only [if_pos (show ((i : Int) < (l.length : Int)) by omega), if_pos (show 0 ≤ (i : Int) by omega), rdOf_str l i (by omega), wsucc i (by omega), toList_inj]
    by_cases h : l[i] = s
    · simp only [if_pos h]
      exact ev_true (by rw [e, h]; exact List.mem_cons_self ..) (Ev.now _)
    · simp only [if_neg h]
      refine ev_prop ?_ (ih (i + 1) (by omega))
      rw [e, List.mem_cons]
      exact ⟨.inr, fun h2 => h2.resolve_left (fun h3 => h h3.symm)⟩

open Classical in
theorem spec_l1Stop_ev (s : ByteArray) : Ev (fun k => spec_l1Stop.f k s) (decide (s ∈ stopsL)) := by
  simp only [spec_l1Stop.f]
  exact spec_l1Stop_l0 s stopsL (by decide) 6 0 rfl

open Classical in
theorem spec_Stem_j1 (x : ByteArray) (hx : x.size ≤ 100) (b : Bool) (hb : b = true → 1 ≤ x.size) : Ev (fun k => spec_Stem.j1 k x (x.size : Int) b) (unStop (if b = true then x.extract 0 (x.size - 1) else x)) := by
  refine Ev.step (fun k => spec_Stem.j1.eq_2 _ _ _ _) ?_
  cases b with
  | false =>
    simp only [if_neg (show ¬ (false = true) by decide)]
    refine Ev.bind (spec_l1Stop_ev x) ?_
    unfold unStop
    by_cases h : x ∈ stopsL
    · simp only [if_pos h, decide_eq_true h, if_true]; exact Ev.now _
    · simp only [if_neg h, decide_eq_false h, if_neg (show ¬ (false = true) by decide)]; exact Ev.now _
  | true =>
    have h1 := hb rfl
    simp only [if_true, wrap_id (x := (x.size : Int) - 1) (by omega) (by omega), if_pos (show 0 ≤ (x.size : Int) - 1 by omega), if_pos (show (x.size : Int) - 1 ≤ (x.size : Int) by omega), show ((x.size : Int) - 1).toNat = x.size - 1 by omega]
    refine Ev.bind (spec_l1Stop_ev _) ?_
    unfold unStop
    by_cases h : x.extract 0 (x.size - 1) ∈ stopsL
    · simp only [if_pos h, decide_eq_true h, if_true]; exact Ev.now _
    · simp only [if_neg h, decide_eq_false h, if_neg (show ¬ (false = true) by decide)]; exact Ev.now _

theorem spec_Stem_j0 (x : ByteArray) (hx : x.size ≤ 100) : Ev (fun k => spec_Stem.j0 k x) (unStop (noS x)) := by
  refine Ev.step (fun k => spec_Stem.j0.eq_2 _ _) ?_
  have key : ∀ b : Bool, b = lessS x → Ev (fun k => spec_Stem.j1 k x (x.size : Int) b) (unStop (noS x)) := by
    intro b hb
    have := spec_Stem_j1 x hx b (fun h => by
      rw [hb] at h
      have := (of_decide_eq_true h).1
      omega)
    rw [hb] at this ⊢
    exact this
  by_cases h3 : (x.size : Int) > 3
  · simp only [if_pos h3, wrap_id (x := (x.size : Int) - 1) (by omega) (by omega), wrap_id (x := (x.size : Int) - 2) (by omega) (by omega), if_pos (show 0 ≤ (x.size : Int) - 1 by omega), if_pos (show (x.size : Int) - 1 < (x.size : Int) by omega), if_pos (show 0 ≤ (x.size : Int) - 2 by omega), if_pos (show (x.size : Int) - 2 < (x.size : Int) by omega)]
    by_cases h4 : bt x ((x.size : Int) - 1) = 115
    · simp only [if_pos h4]
      refine key _ ?_
      unfold lessS
      by_cases h5 : bt x ((x.size : Int) - 2) = 115
      · rw [decide_eq_false (fun h => h.2.2 h5)]; simp [h5]
      · rw [decide_eq_true ⟨by omega, h4, h5⟩]; simp [h5]
    · simp only [if_neg h4]
      refine key _ ?_
      unfold lessS
      rw [decide_eq_false (fun h => h4 h.2.1)]
  · simp only [if_neg h3]
    refine key _ ?_
    unfold lessS
    rw [decide_eq_false (fun h => by have := h.1; omega)]

theorem cut12_long (w : ByteArray) (h : 12 < w.size) : cut12 w = w.extract 0 12 := by unfold cut12; rw [Nat.min_eq_right (by omega)]

theorem extract_self (w : ByteArray) : w.extract 0 w.size = w := by
  apply ByteArray.ext
  rw [ByteArray.data_extract]
  exact Array.extract_size

theorem cut12_short (w : ByteArray) (h : w.size ≤ 12) : cut12 w = w := by unfold cut12; rw [Nat.min_eq_left h]; exact extract_self w

theorem spec_Stem_ev (s : ByteArray) (hs : s.size < 70368744177664) : Ev (fun k => spec_Stem.f k s) (stemB s) := by
  simp only [spec_Stem.f]
  have hz := foldB_size s
  refine Ev.bind (spec_Fold_ev s hs) ?_
  unfold stemB
  by_cases h : ((foldB s).size : Int) > 12
  · simp only [if_pos h, if_pos (show (0 : Int) ≤ 12 by omega), if_pos (show (12 : Int) ≤ ((foldB s).size : Int) by omega)]
    rw [cut12_long _ (by omega)]
    exact spec_Stem_j0 _ (by rw [extract_size _ _ (by omega)]; omega)
  · simp only [if_neg h]
    rw [cut12_short _ (by omega)]
    exact spec_Stem_j0 _ (by omega)

theorem spec_Terms_l0 (l : List S29) (hn : l.length ≤ 1048578) (hs : ∀ w ∈ l, w.f0.size < 70368744177664) : ∀ (d i : Nat) (acc : List ByteArray), i + d = l.length → acc.length ≤ i →
    Ev (fun k => spec_Terms.l0 k acc l (i : Int)) (acc ++ (l.drop i).map (fun w => stemB w.f0)) := by
  intro d
  induction d with
  | zero =>
    intro i acc hi ha
    refine Ev.step (fun k => spec_Terms.l0.eq_2 _ _ _ _) ?_
    simp only [if_neg (show ¬ ((i : Int) < (l.length : Int)) by omega)]
    rw [List.drop_eq_nil_of_le (by omega), List.map_nil, List.append_nil]; exact Ev.now _
  | succ d ih =>
    intro i acc hi ha
    refine Ev.step (fun k => spec_Terms.l0.eq_2 _ _ _ _) ?_
    simp only [if_pos (show ((i : Int) < (l.length : Int)) by omega), if_pos (show 0 ≤ (i : Int) by omega), rd_word_get l i (by omega), wsucc i (by omega)]
    refine Ev.bind (spec_Stem_ev _ (hs _ (List.getElem_mem (by omega)))) ?_
    simp only [if_pos (show acc.length < 8796093022208 by omega)]
    have := ih (i + 1) (acc ++ [stemB l[i].f0]) (by omega) (by simp; omega)
    rw [drop_get l i (by omega), List.map_cons]
    rw [List.append_assoc] at this
    exact this

theorem spec_l1Part_eq (c : Int) (h0 : 0 ≤ c) (h1 : c ≤ 255) : spec_l1Part.f c = some (decide (wordP c)) := by
  simp only [spec_l1Part.f, spec_l1Small_eq c h0 h1, Option.bind_some]
  by_cases h : upP c
  · have h' : 65 ≤ c ∧ c ≤ 90 := h
    simp only [if_pos h, if_pos (show c + 32 ≥ 97 by omega), if_pos (show c + 32 ≤ 122 by omega)]
    congr 1; symm; exact decide_eq_true (.inl h)
  · have h' : ¬ (65 ≤ c ∧ c ≤ 90) := h
    simp only [if_neg h]
    by_cases h2 : c ≥ 97
    · simp only [if_pos h2]
      by_cases h3 : c ≤ 122
      · simp only [if_pos h3]; congr 1; symm; exact decide_eq_true (.inr (.inl ⟨h2, h3⟩))
      · simp only [if_neg h3, if_pos (show c ≥ 48 by omega)]; congr 1; exact decide_eq_decide.2 ⟨fun h4 => .inr (.inr ⟨by omega, h4⟩), fun h4 => by rcases h4 with h4 | h4 | h4; exact absurd h4 h; exact absurd h4.2 h3; exact h4.2⟩
    · simp only [if_neg h2]
      by_cases h3 : c ≥ 48
      · simp only [if_pos h3]; congr 1; exact decide_eq_decide.2 ⟨fun h4 => .inr (.inr ⟨by omega, h4⟩), fun h4 => by rcases h4 with h4 | h4 | h4; exact absurd h4 h; exact absurd h4.1 h2; exact h4.2⟩
      · simp only [if_neg h3]; congr 1; symm; exact decide_eq_false (fun h4 => by rcases h4 with h4 | h4 | h4; exact absurd h4 h; exact absurd h4.1 h2; exact absurd h4.1 h3)

theorem spec_Words_l (s : ByteArray) (hn : s.size < 1099511627776) : ∀ (d : Nat),
    (∀ (i : Nat) (acc : List S29), i + d = s.size → acc.length ≤ i → Ev (fun k => spec_Words.l0 k s acc (i : Int)) (acc ++ (wordsAt i none ((bytesOf s).drop i)).map (mkWord s))) ∧
    (∀ (i j : Nat) (acc : List S29), i + d = s.size → j < i → acc.length ≤ j → Ev (fun k => spec_Words.l1 k s acc (j : Int) (i : Int)) (acc ++ (wordsAt i (some j) ((bytesOf s).drop i)).map (mkWord s))) := by
  have hb := bytesOf_length s
  intro d
  induction d with
  | zero =>
    have h0 : ∀ (i : Nat) (acc : List S29), s.size ≤ i → Ev (fun k => spec_Words.l0 k s acc (i : Int)) acc := by
      intro i acc hi
      refine Ev.step (fun k => spec_Words.l0.eq_2 _ _ _ _) ?_
      simp only [if_neg (show ¬ ((i : Int) < (s.size : Int)) by omega)]
      exact Ev.now _
    constructor
    · intro i acc hi hacc
      rw [List.drop_of_length_le (by omega)]
      simpa [wordsAt] using h0 i acc (by omega)
    · intro i j acc hi hj hacc
      rw [List.drop_of_length_le (by omega)]
      refine Ev.step (fun k => spec_Words.l1.eq_2 _ _ _ _ _) ?_
      simp only [if_neg (show ¬ ((i : Int) < (s.size : Int)) by omega), if_neg (show ¬ (i : Int) = (j : Int) by omega), if_pos (show 0 ≤ (j : Int) by omega), if_pos (show (j : Int) ≤ (i : Int) by omega), if_pos (show (i : Int) ≤ (s.size : Int) by omega), if_pos (show acc.length < 4398046511104 by omega), toNat_cast]
      exact h0 i _ (by omega)
  | succ d ih =>
    have hr : ∀ c ∈ bytesOf s, 0 ≤ c ∧ c ≤ 255 := bytesOf_range s
    have hstep : ∀ (i : Nat) (acc : List S29), i + (d + 1) = s.size → acc.length ≤ i → Ev (fun k => spec_Words.l0 k s acc (i : Int)) (acc ++ (wordsAt i none ((bytesOf s).drop i)).map (mkWord s)) := by
      intro i acc hi hacc
      have hc := hr (bytesOf s)[i] (List.getElem_mem _)
      refine Ev.step (fun k => spec_Words.l0.eq_2 _ _ _ _) ?_
      simp only [if_pos (show ((i : Int) < (s.size : Int)) by omega)]
      refine Ev.step (fun k => spec_Words.l1.eq_2 _ _ _ _ _) ?_
      simp only [if_pos (show ((i : Int) < (s.size : Int)) by omega), if_pos (show 0 ≤ (i : Int) by omega), bt_get s i (by omega), spec_l1Part_eq _ hc.1 hc.2, Option.bind_some, decide_eq_true_eq, wsucc i (by omega), if_true]
      rw [drop_get (bytesOf s) i (by omega)]
      by_cases hw : wordP (bytesOf s)[i]
      · simp only [if_pos hw, wordsAt]
        exact ih.2 (i + 1) i acc (by omega) (by omega) (by omega)
      · simp only [if_neg hw, wordsAt]
        exact ih.1 (i + 1) acc (by omega) (by omega)
    refine ⟨hstep, ?_⟩
    intro i j acc hi hj hacc
    have hc := hr (bytesOf s)[i] (List.getElem_mem _)
    refine Ev.step (fun k => spec_Words.l1.eq_2 _ _ _ _ _) ?_
    simp only [if_pos (show ((i : Int) < (s.size : Int)) by omega), if_pos (show 0 ≤ (i : Int) by omega), bt_get s i (by omega), spec_l1Part_eq _ hc.1 hc.2, Option.bind_some, decide_eq_true_eq, wsucc i (by omega)]
    have hd := drop_get (bytesOf s) i (by omega)
    by_cases hw : wordP (bytesOf s)[i]
    · rw [hd]
      simp only [if_pos hw, wordsAt]
      exact ih.2 (i + 1) j acc (by omega) (by omega) (by omega)
    · simp only [if_neg hw, if_neg (show ¬ (i : Int) = (j : Int) by omega), if_pos (show 0 ≤ (j : Int) by omega), if_pos (show (j : Int) ≤ (i : Int) by omega), if_pos (show (i : Int) ≤ (s.size : Int) by omega), if_pos (show acc.length < 4398046511104 by omega), toNat_cast]
      have := hstep i (acc ++ [mkWord s (j, i)]) hi (by simp; omega)
      rw [hd] at this ⊢
      simp only [wordsAt, if_neg hw, List.append_assoc] at this ⊢
      exact this

theorem spec_Words_ev (s : ByteArray) (hn : s.size < 1099511627776) : Ev (fun k => spec_Words.f k s) (wordsOf s) := by
  have := (spec_Words_l s hn s.size).1 0 [] (by omega) (by simp)
  rw [List.nil_append, List.drop_zero] at this
  exact this

theorem spec_Terms_ev (s : ByteArray) (hs : s.size ≤ 1048578) : Ev (fun k => spec_Terms.f k s) (termsB s) := by
  simp only [spec_Terms.f]
  have hl := wordsOf_length s
  refine Ev.bind (spec_Words_ev s (by omega)) ?_
  exact spec_Terms_l0 (wordsOf s) (by omega) (fun w hw => by have := wordsOf_small s w hw; omega) (wordsOf s).length 0 [] (by omega) (by simp)

theorem termsB_length (s : ByteArray) : (termsB s).length = (wordsOf s).length := List.length_map ..

theorem drop_eq_step {α : Type} {a b : List α} {j : Nat} (ha : j < a.length) (hb : j < b.length) : a.drop j = b.drop j ↔ a[j] = b[j] ∧ a.drop (j + 1) = b.drop (j + 1) := by
  rw [List.drop_eq_getElem_cons ha, List.drop_eq_getElem_cons hb, List.cons.injEq]

open Classical in
theorem eqStringS_l0 (a b : List ByteArray) (hn : a.length < 4611686018427387904) (hl : a.length = b.length) : ∀ (d i : Nat), i + d = a.length → Ev (fun k => laws_eqStringS.l0 k a b (i : Int)) (decide (a.drop i = b.drop i)) := by
  intro d
  induction d with
  | zero =>
    intro i hi
    refine Ev.step (fun k => laws_eqStringS.l0.eq_2 _ _ _ _) ?_
    simp only [if_neg (show ¬ ((i : Int) < (a.length : Int)) by omega)]
    exact ev_true (by rw [List.drop_eq_nil_of_le (by omega), List.drop_eq_nil_of_le (by omega)]) (Ev.now _)
  | succ d ih =>
    intro i hi
    refine Ev.step (fun k => laws_eqStringS.l0.eq_2 _ _ _ _) ?_
    simp only [if_pos (show ((i : Int) < (a.length : Int)) by omega), if_pos (show ((i : Int) < (b.length : Int)) by omega), if_pos (show 0 ≤ (i : Int) by omega), rdOf_str a i (by omega), rdOf_str b i (by omega), wsucc i (by omega), toList_inj]
    by_cases h : a[i]'(by omega) = b[i]'(by omega)
    · simp only [if_pos h]
      refine ev_prop ?_ (ih (i + 1) (by omega))
      rw [drop_eq_step (a := a) (b := b) (j := i) (by omega) (by omega)]
      exact ⟨fun h2 => ⟨h, h2⟩, fun h2 => h2.2⟩
    · simp only [if_neg h]
      refine ev_false (fun h2 => ?_) (Ev.now _)
      rw [drop_eq_step (a := a) (b := b) (j := i) (by omega) (by omega)] at h2
      exact h h2.1

open Classical in
theorem eqStringS_ev (a b : List ByteArray) (hn : a.length < 4611686018427387904) : Ev (fun k => laws_eqStringS.f k a b) (decide (a = b)) := by
  simp only [laws_eqStringS.f]
  by_cases hl : a.length = b.length
  · simp only [if_pos (show (a.length : Int) = (b.length : Int) by omega)]
    exact eqStringS_l0 a b hn hl a.length 0 (by omega)
  · simp only [if_neg (show ¬ (a.length : Int) = (b.length : Int) by omega)]
    exact ev_false (fun h => hl (by rw [h])) (Ev.now _)

theorem eqStringS_refl (a : List ByteArray) (hn : a.length < 4611686018427387904) : Ev (fun k => laws_eqStringS.f k a a) true := by
  have := eqStringS_ev a a hn
  rwa [decide_eq_true rfl] at this

open Classical in
noncomputable def MT (n : Int) : ByteArray := if h : ∃ r, Ev (fun k => laws_markText.f k n) r then Classical.choose h else ByteArray.empty

theorem markText_l0 : ∀ (d : Nat) (n : Int) (s : ByteArray), 0 ≤ n → n ≤ 9223372036854775807 → n < 10 ^ d → s.size + d ≤ 1000 → ∃ r, Ev (fun k => laws_markText.l0 k n s) r := by
  intro d
  induction d with
  | zero =>
    intro n s h0 hm h1 hs
    refine ⟨(⟨#[109]⟩ : ByteArray) ++ s, Ev.step (fun k => laws_markText.l0.eq_2 _ _ _) ?_⟩
    simp only [if_neg (show ¬ n > 0 by simp at h1; omega), if_pos (show 1 + s.size ≤ 9223372036854775807 by omega)]
    exact Ev.now _
  | succ d ih =>
    intro n s h0 hm h1 hs
    by_cases hp : n > 0
    · have e : Int.tdiv n 10 = n / 10 := Int.tdiv_eq_ediv_of_nonneg h0
      have hq : n / 10 < 10 ^ d := by
        have : n < 10 ^ d * 10 := by rw [← Int.pow_succ]; exact h1
        omega
      obtain ⟨r, hr⟩ := ih (n / 10) ((strOfNums [(wrap64 (48 + (Int.tmod n 10))) % 256]) ++ s) (by omega) (by omega) hq (by rw [ByteArray.size_append, strOfNums_size]; simp; omega)
      refine ⟨r, Ev.step (fun k => laws_markText.l0.eq_2 _ _ _) ?_⟩
      simp only [if_pos hp, Option.bind_some, strOfNums_size, List.length_singleton, if_pos (show 1 + s.size ≤ 9223372036854775807 by omega), e, wrap_id (x := n / 10) (by omega) (by omega)]
      exact hr
    · refine ⟨(⟨#[109]⟩ : ByteArray) ++ s, Ev.step (fun k => laws_markText.l0.eq_2 _ _ _) ?_⟩
      simp only [if_neg hp, if_pos (show 1 + s.size ≤ 9223372036854775807 by omega)]
      exact Ev.now _

theorem markText_ex (n : Int) (h0 : 0 ≤ n) (h1 : n ≤ 9223372036854775807) : ∃ r, Ev (fun k => laws_markText.f k n) r := by
  simp only [laws_markText.f]
  by_cases h : n ≤ 0
  · simp only [if_pos h]; exact ⟨_, Ev.now _⟩
  · simp only [if_neg h]
    exact markText_l0 20 n _ h0 h1 (by omega) (by decide)

theorem markText_ev (n : Int) (h0 : 0 ≤ n) (h1 : n ≤ 4611686018427387904) : Ev (fun k => laws_markText.f k n) (MT n) := by
  have h := markText_ex n h0 (by omega)
  unfold MT
  rw [dif_pos h]
  exact Classical.choose_spec h

noncomputable def mkTexts (a : Int) : Nat → List ByteArray
  | 0 => []
  | n + 1 => MT a :: mkTexts (a + 1) n

theorem heldStringS_l0 (l : List ByteArray) (hn : l.length < 1152921504606846976) : ∀ (d i : Nat) (a : Int), i + d = l.length → 0 ≤ a → a + d < 4611686018427387904 → l.drop i = mkTexts a d →
    Ev (fun k => laws_heldStringS.l0 k l a (i : Int)) (a + d) := by
  intro d
  induction d with
  | zero =>
    intro i a hi ha hb hd
    refine Ev.step (fun k => laws_heldStringS.l0.eq_2 _ _ _ _) ?_
    simp only [if_neg (show ¬ ((i : Int) < (l.length : Int)) by omega)]
    simpa using Ev.now a
  | succ d ih =>
    intro i a hi ha hb hd
    refine Ev.step (fun k => laws_heldStringS.l0.eq_2 _ _ _ _) ?_
    rw [drop_get l i (by omega)] at hd
    simp only [mkTexts, List.cons.injEq] at hd
    simp only [if_pos (show ((i : Int) < (l.length : Int)) by omega), if_pos (show 0 ≤ (i : Int) by omega), wsucc i (by omega), rdOf_str l i (by omega), hd.1, wrap_id (x := a + 1) (by omega) (by omega)]
    refine Ev.bind (markText_ev a ha (by omega)) ?_
    simp only [if_true]
    have h := ih (i + 1) (a + 1) (by omega) (by omega) (by omega) hd.2
    have e : a + 1 + (d : Int) = a + ((d + 1 : Nat) : Int) := by omega
    rw [← e]; exact h

theorem mkTexts_length (a : Int) (n : Nat) : (mkTexts a n).length = n := by
  induction n generalizing a with
  | zero => rfl
  | succ n ih => simp [mkTexts, ih]

theorem heldStringS_ev (n : Nat) (hn : n < 1125899906842624) : Ev (fun k => laws_heldStringS.f k (mkTexts 1 n) 1) (1 + (n : Int)) :=
  heldStringS_l0 (mkTexts 1 n) (by rw [mkTexts_length]; omega) n 0 1 (by rw [mkTexts_length]; omega) (by omega) (by omega) rfl

theorem markStringS_l0 : ∀ (d i : Nat) (l : List ByteArray) (a : Int), i + d = l.length → l.length < 1152921504606846976 → 0 ≤ a → a + d < 4611686018427387904 →
    Ev (fun k => laws_markStringS.l0 k l a (i : Int)) (a + d, l.take i ++ mkTexts a d) := by
  intro d
  induction d with
  | zero =>
    intro i l a hi hn ha hb
    refine Ev.step (fun k => laws_markStringS.l0.eq_2 _ _ _ _) ?_
    simp only [if_neg (show ¬ ((i : Int) < (l.length : Int)) by omega)]
    have : (a + ((0 : Nat) : Int), l.take i ++ mkTexts a 0) = (a, l) := by simp [mkTexts, List.take_of_length_le (show l.length ≤ i by omega)]
    rw [this]; exact Ev.now _
  | succ d ih =>
    intro i l a hi hn ha hb
    refine Ev.step (fun k => laws_markStringS.l0.eq_2 _ _ _ _) ?_
    simp only [if_pos (show ((i : Int) < (l.length : Int)) by omega), if_pos (show 0 ≤ (i : Int) by omega), wsucc i (by omega), toNat_cast, wrap_id (x := a + 1) (by omega) (by omega)]
    refine Ev.bind (markText_ev a ha (by omega)) ?_
    have h := ih (i + 1) (l.set i (MT a)) (a + 1) (by simp; omega) (by simp; omega) (by omega) (by omega)
    rw [List.take_add_one, List.take_set_of_le (Nat.le_refl _), List.getElem?_set_self (by omega)] at h
    have e2 : (a + 1 + (d : Int), l.take i ++ (some (MT a)).toList ++ mkTexts (a + 1) d) = (a + ((d + 1 : Nat) : Int), l.take i ++ mkTexts a (d + 1)) := by
      simp [mkTexts]; omega
    rw [← e2]; exact h

theorem markStringS_ev (l : List ByteArray) (hn : l.length < 1125899906842624) : Ev (fun k => laws_markStringS.f k l 1) (1 + (l.length : Int), mkTexts 1 l.length) :=
  markStringS_l0 l.length 0 l 1 (by omega) (by omega) (by omega) (by omega)

theorem FnExactTerms : laws_FnExactTerms.PureX := by
  intro s _
  refine Ev.rounds (g := fun k => laws_FnExactTerms.f k s) ?_
  simp only [laws_FnExactTerms.f]
  by_cases h : (s.size : Int) > 1048576
  · simp only [if_pos h]; exact Ev.now _
  simp only [if_neg h]
  have hl := wordsOf_length s
  have hl2 := termsB_length s
  refine Ev.bind (spec_Terms_ev s (by omega)) ?_
  refine Ev.bind (impl_Terms_ev s (by omega)) ?_
  refine Ev.bind (eqStringS_refl _ (by omega)) ?_
  simp only [if_true]
  refine Ev.bind (markStringS_ev _ (by omega)) ?_
  refine Ev.bind (heldStringS_ev _ (by omega)) ?_
  simp only [if_neg (show ¬ (1 + ((termsB s).length : Int) < 0) by omega), if_true]
  refine Ev.bind (impl_Terms_ev s (by omega)) ?_
  refine Ev.bind (eqStringS_refl _ (by omega)) ?_
  simp only [if_true]
  refine Ev.bind (heldStringS_ev _ (by omega)) ?_
  simp only [if_neg (show ¬ (1 + ((termsB s).length : Int) < 0) by omega), if_true]
  exact Ev.now _

end Go.Proofs.YtifenfjjekpflaaDoor.Pure
