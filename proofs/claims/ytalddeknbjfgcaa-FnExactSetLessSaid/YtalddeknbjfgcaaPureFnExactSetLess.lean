/- The plain law of FnExactSetLess: whatever the input, the printed function of this law answers true after enough rounds; conditions: only the sizes and kinds that the law's Pure states. -/
import Derived.Test.YtalddeknbjfgcaaPFnExactSetLessx3
import Derived.Test.YtalddeknbjfgcaaWSized
namespace Go.Proofs.Ytalddeknbjfgcaa.PrintWords
abbrev sized_ints := @Go.Proofs.YtalddeknbjfgcaaW.PrintWords.sized_ints
end Go.Proofs.Ytalddeknbjfgcaa.PrintWords
namespace Go.Proofs.Ytalddeknbjfgcaa.Pure
open Go.RowKit Go.Proofs.Ytalddeknbjfgcaa.PFnExactSetLess Go.Proofs.YtalddeknbjfgcaaW.PrintWords Go.Proofs.YtalddeknbjfgcaaW.PrintLast
set_option linter.unusedVariables false
set_option linter.unusedSimpArgs false

theorem wrap_id {x : Int} (h0 : -9223372036854775808 ≤ x) (h1 : x ≤ 9223372036854775807) : wrap64 x = x := by unfold wrap64; omega
theorem wsucc (j : Nat) (h : j < 9223372036854775807) : wrap64 ((j : Int) + 1) = ((j + 1 : Nat) : Int) := by rw [wrap_id (by omega) (by omega)]; omega
theorem wpred (j : Nat) (h : j < 9223372036854775807) : wrap64 (((j + 1 : Nat) : Int) - 1) = (j : Int) := by rw [wrap_id (by omega) (by omega)]; omega
theorem rd_get (l : List Int) (j : Nat) (h : j < l.length) : rd l (j : Int) = l[j] := by
  unfold rd; simp [List.getD_eq_getElem?_getD, List.getElem?_eq_getElem h]
theorem rdOf_get {α : Type} (d : α) (l : List α) (j : Nat) (h : j < l.length) : rdOf d l (j : Int) = l[j] := by
  unfold rdOf; simp [List.getD_eq_getElem?_getD, List.getElem?_eq_getElem h]
theorem bt_get (s : ByteArray) (j : Nat) (h : j < (bytesOf s).length) : bt s (j : Int) = (bytesOf s)[j] := by
  rw [← rd_bytesOf, rd_get _ _ h]
theorem drop_get {α : Type} (l : List α) (j : Nat) (h : j < l.length) : l.drop j = l[j] :: l.drop (j + 1) := List.drop_eq_getElem_cons h
theorem ev_eq {α : Type} {g : Nat → Option α} {r : α} (h : ∀ k, g k = some r) : Ev g r := ⟨0, fun k _ => h k⟩
theorem ev_unique {α : Type} {g : Nat → Option α} {a b : α} (h : Ev g a) (h' : Ev g b) : a = b := by
  obtain ⟨K, h⟩ := h
  obtain ⟨K', h'⟩ := h'
  exact Option.some.inj ((h (max K K') (by omega)).symm.trans (h' (max K K') (by omega)))
theorem take_set_succ {α : Type} (l m : List α) (i : Nat) (v : α) (hl : i < l.length) (hm : i < m.length) (hv : m[i] = v) (h : l.take i = m.take i) : (l.set i v).take (i + 1) = m.take (i + 1) := by
  rw [List.take_add_one, List.take_add_one, List.take_set_of_le (Nat.le_refl _), h]
  congr 1
  rw [List.getElem?_set_self hl, List.getElem?_eq_getElem hm, hv]
theorem toNat_cast (i : Nat) : ((i : Int)).toNat = i := by simp
theorem bytesOf_range (s : ByteArray) : ∀ c ∈ bytesOf s, 0 ≤ c ∧ c ≤ 255 := by
  intro c hc
  obtain ⟨b, _, rfl⟩ := List.mem_map.1 hc
  have := b.toNat_lt
  omega
theorem ev_prop {g : Nat → Option Bool} {p q : Prop} [Decidable p] [Decidable q] (h : p ↔ q) (k : Ev g (decide p)) : Ev g (decide q) := by
  have : decide p = decide q := decide_eq_decide.2 h
  rw [← this]; exact k
theorem ev_true {g : Nat → Option Bool} {p : Prop} [Decidable p] (h : p) (k : Ev g true) : Ev g (decide p) := by
  rw [decide_eq_true h]; exact k
theorem ev_false {g : Nat → Option Bool} {p : Prop} [Decidable p] (h : ¬ p) (k : Ev g false) : Ev g (decide p) := by
  rw [decide_eq_false h]; exact k
theorem mem_drop_step {α : Type} {l : List α} {j : Nat} {n : α} (h : j < l.length) : n ∈ l.drop j ↔ n = l[j] ∨ n ∈ l.drop (j + 1) := by
  rw [List.drop_eq_getElem_cons h, List.mem_cons]
theorem drop_eq_step {α : Type} {a b : List α} {j : Nat} (ha : j < a.length) (hb : j < b.length) : a.drop j = b.drop j ↔ a[j] = b[j] ∧ a.drop (j + 1) = b.drop (j + 1) := by
  rw [List.drop_eq_getElem_cons ha, List.drop_eq_getElem_cons hb, List.cons.injEq]

def okFrom (l : List Int) (j : Nat) : Prop := (∀ (i : Nat) (h : i < l.length), j ≤ i → (0 ≤ l[i] ∧ l[i] ≤ 999999999) ∧ (0 < i → l[i - 1] < l[i])) ∧ l.length ≤ 16
def setOk (l : List Int) : Prop := okFrom l 0
open Classical in
noncomputable def setOkB (l : List Int) : Bool := decide (setOk l)
open Classical in
theorem setOkB_iff {l : List Int} : setOkB l = true ↔ setOk l := by unfold setOkB; exact decide_eq_true_iff
theorem okFrom_end {l : List Int} {j : Nat} (hj : l.length ≤ j) : okFrom l j ↔ l.length ≤ 16 := ⟨fun h => h.2, fun h => ⟨fun i hi hji => by omega, h⟩⟩
theorem okFrom_step {l : List Int} {j : Nat} (hj : j < l.length) : okFrom l j ↔ ((0 ≤ l[j] ∧ l[j] ≤ 999999999) ∧ (0 < j → l[j - 1] < l[j])) ∧ okFrom l (j + 1) := by
  constructor
  · rintro ⟨h, h2⟩
    exact ⟨h j hj (Nat.le_refl _), fun i hi hji => h i hi (by omega), h2⟩
  · rintro ⟨h, h1, h2⟩
    refine ⟨fun i hi hji => ?_, h2⟩
    rcases Nat.lt_or_ge j i with hlt | hge
    · exact h1 i hi hlt
    · obtain rfl : i = j := by omega
      exact h

theorem spec_l3Has_l0 (l : List Int) (n : Int) (hn : l.length < 4611686018427387904) : ∀ (d i : Nat), i + d = l.length → Ev (fun k => spec_l3Has.l0 k l n (i : Int)) (decide (n ∈ l.drop i)) := by
  intro d
  induction d with
  | zero =>
    intro i hi
    refine Ev.step (fun k => spec_l3Has.l0.eq_2 _ _ _ _) ?_
    simp only [if_neg (show ¬ ((i : Int) < (l.length : Int)) by omega)]
    rw [List.drop_of_length_le (by omega)]
    exact Ev.now _
  | succ d ih =>
    intro i hi
    refine Ev.step (fun k => spec_l3Has.l0.eq_2 _ _ _ _) ?_
    simp only [if_pos (show ((i : Int) < (l.length : Int)) by omega), if_pos (show 0 ≤ (i : Int) by omega), wsucc i (by omega), rd_get l i (by omega)]
    have hs := mem_drop_step (l := l) (n := n) (show i < l.length by omega)
    by_cases h : l[i] = n
    · simp only [if_pos h]
      exact ev_true (hs.2 (.inl h.symm)) (Ev.now _)
    · simp only [if_neg h]
      exact ev_prop (hs.trans ⟨fun h1 => h1.resolve_left (Ne.symm h), .inr⟩).symm (ih (i + 1) (by omega))
theorem spec_l3Has_ev (l : List Int) (n : Int) (hn : l.length < 4611686018427387904) : Ev (fun k => spec_l3Has.f k l n) (decide (n ∈ l)) := spec_l3Has_l0 l n hn l.length 0 (by omega)

def pick3 (b : List Int) (f : Bool) (n : Int) : Bool := decide (n ∈ b) == f
def setPick (a b : List Int) (f : Bool) : List Int := a.filter (pick3 b f)
theorem spec_l3And_l0 (a b : List Int) (f : Bool) (ha : a.length < 4398046511104) (hb : b.length < 4398046511104) : ∀ (d i : Nat) (acc : List Int), i + d = a.length → acc.length ≤ i →
    Ev (fun k => spec_l3And.l0 k a b f acc (i : Int)) (acc ++ (a.drop i).filter (pick3 b f)) := by
  intro d
  induction d with
  | zero =>
    intro i acc hi hacc
    refine Ev.step (fun k => spec_l3And.l0.eq_2 _ _ _ _ _ _) ?_
    simp only [if_neg (show ¬ ((i : Int) < (a.length : Int)) by omega)]
    rw [List.drop_of_length_le (by omega), List.filter_nil, List.append_nil]
    exact Ev.now _
  | succ d ih =>
    intro i acc hi hacc
    refine Ev.step (fun k => spec_l3And.l0.eq_2 _ _ _ _ _ _) ?_
    simp only [if_pos (show ((i : Int) < (a.length : Int)) by omega), if_pos (show 0 ≤ (i : Int) by omega), wsucc i (by omega), rd_get a i (by omega)]
    refine Ev.bind (spec_l3Has_ev b a[i] (by omega)) ?_
    rw [drop_get a i (by omega)]
    by_cases h : pick3 b f a[i] = true
    · have h' : (decide (a[i] ∈ b) == f) = true := h
      simp only [h', if_true, if_pos (show acc.length < 17592186044416 by omega)]
      rw [List.filter_cons_of_pos h]
      have := ih (i + 1) (acc ++ [a[i]]) (by omega) (by simp; omega)
      simpa using this
    · have h' : (decide (a[i] ∈ b) == f) = false := by simpa [pick3] using h
      simp only [h', if_neg (show ¬ (false = true) by decide)]
      rw [List.filter_cons_of_neg (by simpa using h)]
      exact ih (i + 1) acc (by omega) (by omega)
theorem spec_l3And_ev (a b : List Int) (f : Bool) (ha : a.length < 4398046511104) (hb : b.length < 4398046511104) : Ev (fun k => spec_l3And.f k a b f) (setPick a b f) := by
  have := spec_l3And_l0 a b f ha hb a.length 0 [] (by omega) (by simp)
  rw [List.nil_append, List.drop_zero] at this
  exact this

noncomputable def setAL (a b : List Int) (f : Bool) : List Int := if (setOkB a && setOkB b) = true then setPick a b f else []
theorem setPick_length (a b : List Int) (f : Bool) : (setPick a b f).length ≤ a.length := List.length_filter_le _ _
theorem setAL_length (a b : List Int) (f : Bool) : (setAL a b f).length ≤ a.length := by unfold setAL; split; exact setPick_length _ _ _; simp

theorem impl_within_eq (a b c : Int) : impl_within.f a b c = some (decide (b ≤ a ∧ a ≤ c)) := by
  unfold impl_within.f
  by_cases h : a ≥ b
  · rw [if_pos h]; congr 1; exact decide_eq_decide.2 ⟨fun h2 => ⟨h, h2⟩, fun h2 => h2.2⟩
  · rw [if_neg h]; congr 1; symm; exact decide_eq_false (fun h2 => h h2.1)

open Classical in
theorem impl_SetOk_l0 (l : List Int) (hn : l.length < 4611686018427387904) : ∀ (d i : Nat), i + d = l.length → Ev (fun k => impl_SetOk.l0 k l l (l.length : Int) (i : Int)) (decide (okFrom l i)) := by
  intro d
  induction d with
  | zero =>
    intro i hi
    refine Ev.step (fun k => impl_SetOk.l0.eq_2 _ _ _ _ _) ?_
    simp only [if_neg (show ¬ ((i : Int) < (l.length : Int)) by omega)]
    refine ev_prop (okFrom_end (by omega)).symm ?_
    refine ev_eq fun _ => ?_
    congr 1; exact decide_eq_decide.2 (by omega)
  | succ d ih =>
    intro i hi
    have hs := okFrom_step (l := l) (j := i) (by omega)
    refine Ev.step (fun k => impl_SetOk.l0.eq_2 _ _ _ _ _) ?_
    simp only [if_pos (show ((i : Int) < (l.length : Int)) by omega), if_pos (show 0 ≤ (i : Int) by omega), wsucc i (by omega), rd_get l i (by omega), impl_within_eq, Option.bind_some, decide_eq_true_eq]
    by_cases h1 : 0 ≤ l[i] ∧ l[i] ≤ 999999999
    · simp only [if_pos h1]
      cases i with
      | zero =>
        simp only [if_neg (show ¬ (((0 : Nat) : Int) > 0) by omega)]
        exact ev_prop (hs.trans ⟨fun h => h.2, fun h => ⟨⟨h1, fun h0 => by omega⟩, h⟩⟩).symm (ih 1 (by omega))
      | succ j =>
        simp only [if_pos (show (((j + 1 : Nat) : Int) > 0) by omega), wpred j (by omega), if_pos (show 0 ≤ (j : Int) by omega), if_pos (show ((j : Int) < (l.length : Int)) by omega), rd_get l j (by omega)]
        by_cases h2 : l[j] ≥ l[j + 1]
        · simp only [if_pos h2]
          have : decide (okFrom l (j + 1)) = false := decide_eq_false (fun h => by have := (hs.1 h).1.2 (by omega); simp at this; omega)
          rw [this]; exact Ev.now _
        · simp only [if_neg h2]
          exact ev_prop (hs.trans ⟨fun h => h.2, fun h => ⟨⟨h1, fun _ => by simp; omega⟩, h⟩⟩).symm (ih (j + 2) (by omega))
    · simp only [if_neg h1]
      have : decide (okFrom l i) = false := decide_eq_false (fun h => h1 (hs.1 h).1.1)
      rw [this]; exact Ev.now _
theorem impl_SetOk_ev (l : List Int) (hn : l.length < 4611686018427387904) : Ev (fun k => impl_SetOk.f k l) (setOkB l) := impl_SetOk_l0 l hn l.length 0 (by omega)

theorem slices_Index_int_int_l0 (l : List Int) (n : Int) (hn : l.length < 4611686018427387904) : ∀ (d i : Nat), i + d = l.length → ∃ r : Int, Ev (fun k => slices_Index_int_int.l0 k l n (l.length : Int) (i : Int)) r ∧ decide (r ≥ 0) = decide (n ∈ l.drop i) := by
  intro d
  induction d with
  | zero =>
    intro i hi
    refine ⟨-1, Ev.step (fun k => slices_Index_int_int.l0.eq_2 _ _ _ _ _) ?_, ?_⟩
    · simp only [if_neg (show ¬ ((i : Int) < (l.length : Int)) by omega)]
      exact Ev.now _
    · rw [List.drop_of_length_le (by omega)]; simp
  | succ d ih =>
    intro i hi
    by_cases h : n = l[i]
    · refine ⟨(i : Int), Ev.step (fun k => slices_Index_int_int.l0.eq_2 _ _ _ _ _) ?_, ?_⟩
      · simp only [if_pos (show ((i : Int) < (l.length : Int)) by omega), if_pos (show 0 ≤ (i : Int) by omega), rd_get l i (by omega), if_pos h]
        exact Ev.now _
      · have hs := mem_drop_step (l := l) (n := n) (show i < l.length by omega); rw [decide_eq_true (hs.2 (.inl h))]; simp
    · obtain ⟨r, h1, h2⟩ := ih (i + 1) (by omega)
      refine ⟨r, Ev.step (fun k => slices_Index_int_int.l0.eq_2 _ _ _ _ _) ?_, ?_⟩
      · simp only [if_pos (show ((i : Int) < (l.length : Int)) by omega), if_pos (show 0 ≤ (i : Int) by omega), rd_get l i (by omega), if_neg h, wsucc i (by omega)]
        exact h1
      · have hs := mem_drop_step (l := l) (n := n) (show i < l.length by omega); rw [h2]; exact decide_eq_decide.2 (hs.trans ⟨fun h1 => h1.resolve_left h, .inr⟩).symm
theorem slices_Contains_int_int_ev (l : List Int) (n : Int) (hn : l.length < 4611686018427387904) : Ev (fun k => slices_Contains_int_int.f k l n) (decide (n ∈ l)) := by
  obtain ⟨r, h1, h2⟩ := slices_Index_int_int_l0 l n hn l.length 0 (by omega)
  simp only [slices_Contains_int_int.f]
  refine Ev.bind (a := r) h1 ?_
  rw [h2]; exact Ev.now _

theorem impl_chosen_l0 (a b : List Int) (f : Bool) (ha : a.length < 4398046511104) (hb : b.length < 4398046511104) : ∀ (d i : Nat) (acc : List Int), i + d = a.length → acc.length ≤ i →
    Ev (fun k => impl_chosen.l0 k b f acc a (a.length : Int) (i : Int)) (acc ++ (a.drop i).filter (pick3 b f)) := by
  intro d
  induction d with
  | zero =>
    intro i acc hi hacc
    refine Ev.step (fun k => impl_chosen.l0.eq_2 _ _ _ _ _ _ _) ?_
    simp only [if_neg (show ¬ ((i : Int) < (a.length : Int)) by omega)]
    rw [List.drop_of_length_le (by omega), List.filter_nil, List.append_nil]
    exact Ev.now _
  | succ d ih =>
    intro i acc hi hacc
    refine Ev.step (fun k => impl_chosen.l0.eq_2 _ _ _ _ _ _ _) ?_
    simp only [if_pos (show ((i : Int) < (a.length : Int)) by omega), if_pos (show 0 ≤ (i : Int) by omega), wsucc i (by omega), rd_get a i (by omega)]
    refine Ev.bind (slices_Contains_int_int_ev b a[i] (by omega)) ?_
    rw [drop_get a i (by omega)]
    by_cases h : pick3 b f a[i] = true
    · have h' : (decide (a[i] ∈ b) == f) = true := h
      simp only [h', if_true, if_pos (show acc.length < 17592186044416 by omega)]
      rw [List.filter_cons_of_pos h]
      have := ih (i + 1) (acc ++ [a[i]]) (by omega) (by simp; omega)
      simpa using this
    · have h' : (decide (a[i] ∈ b) == f) = false := by simpa [pick3] using h
      simp only [h', if_neg (show ¬ (false = true) by decide)]
      rw [List.filter_cons_of_neg (by simpa using h)]
      exact ih (i + 1) acc (by omega) (by omega)
theorem impl_chosen_ev (a b : List Int) (f : Bool) (ha : a.length < 4398046511104) (hb : b.length < 4398046511104) : Ev (fun k => impl_chosen.f k a b f) (setPick a b f) := by
  have := impl_chosen_l0 a b f ha hb a.length 0 [] (by omega) (by simp)
  rw [List.nil_append, List.drop_zero] at this
  exact this
theorem impl_setsOk_ev (a b : List Int) (ha : a.length < 4398046511104) (hb : b.length < 4398046511104) : Ev (fun k => impl_setsOk.f k a b) (setOkB a && setOkB b) := by
  simp only [impl_setsOk.f]
  refine Ev.bind (impl_SetOk_ev a (by omega)) ?_
  cases setOkB a with
  | false => exact Ev.now _
  | true => exact Ev.bind (impl_SetOk_ev b (by omega)) (Ev.now _)

theorem spec_l1In_eq (a b c : Int) : spec_l1In.f a b c = some (decide (b ≤ a ∧ a ≤ c)) := by
  unfold spec_l1In.f
  by_cases h : a ≥ b
  · rw [if_pos h]; congr 1; exact decide_eq_decide.2 ⟨fun h2 => ⟨h, h2⟩, fun h2 => h2.2⟩
  · rw [if_neg h]; congr 1; symm; exact decide_eq_false (fun h2 => h h2.1)

open Classical in
theorem spec_SetOk_l0 (l : List Int) (hn : l.length < 4611686018427387904) : ∀ (d i : Nat), i + d = l.length → Ev (fun k => spec_SetOk.l0 k l (i : Int)) (decide (okFrom l i)) := by
  intro d
  induction d with
  | zero =>
    intro i hi
    refine Ev.step (fun k => spec_SetOk.l0.eq_2 _ _ _) ?_
    simp only [if_neg (show ¬ ((i : Int) < (l.length : Int)) by omega)]
    refine ev_prop (okFrom_end (by omega)).symm ?_
    refine ev_eq fun _ => ?_
    congr 1; exact decide_eq_decide.2 (by omega)
  | succ d ih =>
    intro i hi
    have hs := okFrom_step (l := l) (j := i) (by omega)
    refine Ev.step (fun k => spec_SetOk.l0.eq_2 _ _ _) ?_
    simp only [if_pos (show ((i : Int) < (l.length : Int)) by omega), if_pos (show 0 ≤ (i : Int) by omega), wsucc i (by omega), rd_get l i (by omega), spec_l1In_eq, Option.bind_some, decide_eq_true_eq]
    by_cases h1 : 0 ≤ l[i] ∧ l[i] ≤ 999999999
    · simp only [if_pos h1]
      cases i with
      | zero =>
        simp only [if_neg (show ¬ (((0 : Nat) : Int) > 0) by omega)]
        exact ev_prop (hs.trans ⟨fun h => h.2, fun h => ⟨⟨h1, fun h0 => by omega⟩, h⟩⟩).symm (ih 1 (by omega))
      | succ j =>
        simp only [if_pos (show (((j + 1 : Nat) : Int) > 0) by omega), wpred j (by omega), if_pos (show 0 ≤ (j : Int) by omega), if_pos (show ((j : Int) < (l.length : Int)) by omega), rd_get l j (by omega)]
        by_cases h2 : l[j] ≥ l[j + 1]
        · simp only [if_pos h2]
          have : decide (okFrom l (j + 1)) = false := decide_eq_false (fun h => by have := (hs.1 h).1.2 (by omega); simp at this; omega)
          rw [this]; exact Ev.now _
        · simp only [if_neg h2]
          exact ev_prop (hs.trans ⟨fun h => h.2, fun h => ⟨⟨h1, fun _ => by simp; omega⟩, h⟩⟩).symm (ih (j + 2) (by omega))
    · simp only [if_neg h1]
      have : decide (okFrom l i) = false := decide_eq_false (fun h => h1 (hs.1 h).1.1)
      rw [this]; exact Ev.now _
theorem spec_SetOk_ev (l : List Int) (hn : l.length < 4611686018427387904) : Ev (fun k => spec_SetOk.f k l) (setOkB l) := spec_SetOk_l0 l hn l.length 0 (by omega)

theorem spec_SetLess_ev (a b : List Int) (ha : a.length < 4398046511104) (hb : b.length < 4398046511104) : Ev (fun k => spec_SetLess.f k a b) (setAL a b false) := by
  simp only [spec_SetLess.f, setAL]
  refine Ev.bind (spec_SetOk_ev a (by omega)) ?_
  cases setOkB a with
  | false => exact Ev.now _
  | true =>
    simp only [if_true]
    refine Ev.bind (spec_SetOk_ev b (by omega)) ?_
    cases setOkB b with
    | false => exact Ev.now _
    | true => exact Ev.bind (spec_l3And_ev a b false ha hb) (Ev.now _)
theorem impl_SetLess_ev (a b : List Int) (ha : a.length < 4398046511104) (hb : b.length < 4398046511104) : Ev (fun k => impl_SetLess.f k a b) (setAL a b false) := by
  simp only [impl_SetLess.f, setAL]
  refine Ev.bind (impl_setsOk_ev a b ha hb) ?_
  cases h : (setOkB a && setOkB b) with
  | false => exact Ev.now _
  | true => exact Ev.bind (impl_chosen_ev a b false ha hb) (Ev.now _)

theorem eqIntS_l0 (a b : List Int) (hn : a.length < 4611686018427387904) (hl : a.length = b.length) : ∀ (d i : Nat), i + d = a.length →
    Ev (fun k => laws_eqIntS.l0 k a b (i : Int)) (decide (a.drop i = b.drop i)) := by
  intro d
  induction d with
  | zero =>
    intro i hi
    refine Ev.step (fun k => laws_eqIntS.l0.eq_2 _ _ _ _) ?_
    simp only [if_neg (show ¬ ((i : Int) < (a.length : Int)) by omega)]
    rw [List.drop_of_length_le (by omega), List.drop_of_length_le (by omega)]
    exact Ev.now _
  | succ d ih =>
    intro i hi
    refine Ev.step (fun k => laws_eqIntS.l0.eq_2 _ _ _ _) ?_
    simp only [if_pos (show ((i : Int) < (a.length : Int)) by omega), if_pos (show 0 ≤ (i : Int) by omega), if_pos (show ((i : Int) < (b.length : Int)) by omega), wsucc i (by omega), rd_get a i (by omega), rd_get b i (by omega)]
    have hs := drop_eq_step (a := a) (b := b) (show i < a.length by omega) (show i < b.length by omega)
    by_cases h : a[i] = b[i]
    · simp only [if_pos h]
      exact ev_prop (hs.trans ⟨fun h1 => h1.2, fun h1 => ⟨h, h1⟩⟩).symm (ih (i + 1) (by omega))
    · simp only [if_neg h]
      exact ev_false (fun h1 => h (hs.1 h1).1) (Ev.now _)
theorem eqIntS_ev (a b : List Int) (hn : a.length < 4611686018427387904) : Ev (fun k => laws_eqIntS.f k a b) (decide (a = b)) := by
  simp only [laws_eqIntS.f]
  by_cases hl : a.length = b.length
  · simp only [if_pos (show (a.length : Int) = (b.length : Int) by omega)]
    exact eqIntS_l0 a b hn hl a.length 0 (by omega)
  · simp only [if_neg (show ¬ (a.length : Int) = (b.length : Int) by omega)]
    have : decide (a = b) = false := by simp; intro h; exact hl (by rw [h])
    rw [this]; exact Ev.now _

def mkInts (a : Int) : Nat → List Int
  | 0 => []
  | n + 1 => a :: mkInts (a + 1) n
theorem mkInts_length (a : Int) (n : Nat) : (mkInts a n).length = n := by
  induction n generalizing a with
  | zero => rfl
  | succ n ih => simp [mkInts, ih]
theorem markIntS_l0 : ∀ (d i : Nat) (l : List Int) (a : Int), i + d = l.length → l.length < 4611686018427387904 → 0 ≤ a → a + d < 4611686018427387904 →
    Ev (fun k => laws_markIntS.l0 k l a (i : Int)) (a + d, l.take i ++ mkInts a d) := by
  intro d
  induction d with
  | zero =>
    intro i l a hi hn ha hb
    refine Ev.step (fun k => laws_markIntS.l0.eq_2 _ _ _ _) ?_
    simp only [if_neg (show ¬ ((i : Int) < (l.length : Int)) by omega)]
    have : (a + ((0 : Nat) : Int), l.take i ++ mkInts a 0) = (a, l) := by simp [mkInts, List.take_of_length_le (show l.length ≤ i by omega)]
    rw [this]; exact Ev.now _
  | succ d ih =>
    intro i l a hi hn ha hb
    refine Ev.step (fun k => laws_markIntS.l0.eq_2 _ _ _ _) ?_
    simp only [if_pos (show ((i : Int) < (l.length : Int)) by omega), if_pos (show 0 ≤ (i : Int) by omega), wsucc i (by omega), toNat_cast, wrap_id (x := a + 1) (by omega) (by omega)]
    have h := ih (i + 1) (l.set i a) (a + 1) (by simp; omega) (by simp; omega) (by omega) (by omega)
    have e : (l.set i a).take (i + 1) = l.take i ++ [a] := by
      rw [List.take_add_one, List.take_set_of_le (Nat.le_refl _), List.getElem?_set_self (by omega)]; rfl
    rw [e] at h
    have e2 : (a + 1 + (d : Int), l.take i ++ [a] ++ mkInts (a + 1) d) = (a + ((d + 1 : Nat) : Int), l.take i ++ mkInts a (d + 1)) := by
      simp [mkInts]; omega
    rw [← e2]; exact h
theorem markIntS_ev (l : List Int) (a : Int) (hn : l.length < 1152921504606846976) (ha : 0 ≤ a) (hb : a < 1152921504606846976) : Ev (fun k => laws_markIntS.f k l a) (a + l.length, mkInts a l.length) :=
  markIntS_l0 l.length 0 l a (by omega) (by omega) ha (by omega)
theorem heldIntS_l0 (l : List Int) (hn : l.length < 4611686018427387904) : ∀ (d i : Nat) (a : Int), i + d = l.length → 0 ≤ a → a + d < 4611686018427387904 → l.drop i = mkInts a d →
    Ev (fun k => laws_heldIntS.l0 k l a (i : Int)) (a + d) := by
  intro d
  induction d with
  | zero =>
    intro i a hi ha hb hd
    refine Ev.step (fun k => laws_heldIntS.l0.eq_2 _ _ _ _) ?_
    simp only [if_neg (show ¬ ((i : Int) < (l.length : Int)) by omega)]
    simpa using Ev.now a
  | succ d ih =>
    intro i a hi ha hb hd
    refine Ev.step (fun k => laws_heldIntS.l0.eq_2 _ _ _ _) ?_
    rw [drop_get l i (by omega)] at hd
    simp only [mkInts, List.cons.injEq] at hd
    simp only [if_pos (show ((i : Int) < (l.length : Int)) by omega), if_pos (show 0 ≤ (i : Int) by omega), wsucc i (by omega), rd_get l i (by omega), if_pos hd.1, wrap_id (x := a + 1) (by omega) (by omega)]
    have h := ih (i + 1) (a + 1) (by omega) (by omega) (by omega) hd.2
    have e : a + 1 + (d : Int) = a + ((d + 1 : Nat) : Int) := by omega
    rw [← e]; exact h
theorem heldIntS_ev (n : Nat) (a : Int) (hn : n < 1152921504606846976) (ha : 0 ≤ a) (hb : a < 1152921504606846976) : Ev (fun k => laws_heldIntS.f k (mkInts a n) a) (a + n) :=
  heldIntS_l0 (mkInts a n) (by rw [mkInts_length]; omega) n 0 a (by rw [mkInts_length]; omega) ha (by omega) rfl

theorem toIntS_l0 (x0 : List Int) (hn : x0.length < 4611686018427387904) : ∀ (d i : Nat) (x3 : List Int), i + d = x0.length → x3.length = x0.length → x3.take i = x0.take i →
    Ev (fun k => laws_toIntS.l0 k x0 x3 (i : Int)) x0 := by
  intro d
  induction d with
  | zero =>
    intro i x3 hi hl ht
    refine Ev.step (fun k => laws_toIntS.l0.eq_2 _ _ _ _) ?_
    simp only [if_neg (show ¬ ((i : Int) < (x0.length : Int)) by omega)]
    have : x3 = x0 := by rw [List.take_of_length_le (by omega), List.take_of_length_le (by omega)] at ht; exact ht
    rw [this]; exact Ev.now _
  | succ d ih =>
    intro i x3 hi hl ht
    refine Ev.step (fun k => laws_toIntS.l0.eq_2 _ _ _ _) ?_
    simp only [if_pos (show ((i : Int) < (x0.length : Int)) by omega), if_pos (show 0 ≤ (i : Int) by omega), if_pos (show ((i : Int) < (x3.length : Int)) by omega), wsucc i (by omega), toNat_cast, rd_get x0 i (by omega)]
    exact ih (i + 1) _ (by omega) (by simp [hl]) (take_set_succ _ _ _ _ (by omega) (by omega) rfl ht)
theorem toIntS_ev (x0 : List Int) (hn : x0.length ≤ 35184372088832) : Ev (fun k => laws_toIntS.f k x0) x0 := by
  simp only [laws_toIntS.f, if_pos (show 0 ≤ (x0.length : Int) by omega), toNat_cast, if_pos hn]
  exact toIntS_l0 x0 (by omega) x0.length 0 _ (by omega) (by simp) rfl

theorem FnExactSetLess : laws_FnExactSetLess.Pure := by
  intro l0 l1 hm0 hl0 hw0 hm1 hl1 hw1
  refine Ev.rounds (g := fun k => laws_FnExactSetLess.f k l0 l1) ?_
  simp only [laws_FnExactSetLess.f]
  by_cases hg : (l0.length : Int) > 1048576
  · simp only [if_pos hg]; exact Ev.now _
  simp only [if_neg hg]
  by_cases hg1 : (l1.length : Int) > 1048576
  · simp only [if_pos hg1]; exact Ev.now _
  simp only [if_neg hg1]
  have hr := setAL_length l0 l1 false
  refine Ev.bind (toIntS_ev l0 (by omega)) ?_
  refine Ev.bind (toIntS_ev l1 (by omega)) ?_
  refine Ev.bind (spec_SetLess_ev l0 l1 (by omega) (by omega)) ?_
  refine Ev.bind (toIntS_ev l0 (by omega)) ?_
  refine Ev.bind (toIntS_ev l1 (by omega)) ?_
  refine Ev.bind (impl_SetLess_ev l0 l1 (by omega) (by omega)) ?_
  refine Ev.bind (eqIntS_ev _ _ (by omega)) ?_
  simp only [decide_true, if_true]
  refine Ev.bind (toIntS_ev l0 (by omega)) ?_
  refine Ev.bind (eqIntS_ev _ _ (by omega)) ?_
  simp only [decide_true, if_true]
  refine Ev.bind (toIntS_ev l1 (by omega)) ?_
  refine Ev.bind (eqIntS_ev _ _ (by omega)) ?_
  simp only [decide_true, if_true]
  refine Ev.bind (markIntS_ev l0 1 (by omega) (by omega) (by omega)) ?_
  refine Ev.bind (markIntS_ev l1 (1 + l0.length) (by omega) (by omega) (by omega)) ?_
  simp only [if_neg (show ¬ (1 + (l0.length : Int) + (l1.length : Int) < 0) by omega)]
  refine Ev.bind (eqIntS_ev _ _ (by omega)) ?_
  simp only [decide_true, Bool.not_true]
  refine Ev.step (fun k => laws_FnExactSetLess.j0.eq_2 _ _ _ _ _ _) ?_
  simp only [if_neg (show ¬ (false = true) by decide)]
  have hlen : (mkInts 1 (setAL l0 l1 false).length).length = (setAL l0 l1 false).length := mkInts_length _ _
  refine Ev.bind (markIntS_ev (setAL l0 l1 false) 1 (by omega) (by omega) (by omega)) ?_
  refine Ev.bind (heldIntS_ev _ 1 (by omega) (by omega) (by omega)) ?_
  simp only [if_neg (show ¬ (1 + ((setAL l0 l1 false).length : Int) < 0) by omega), if_true]
  refine Ev.bind (toIntS_ev l0 (by omega)) ?_
  refine Ev.bind (toIntS_ev l1 (by omega)) ?_
  refine Ev.bind (impl_SetLess_ev l0 l1 (by omega) (by omega)) ?_
  refine Ev.bind (eqIntS_ev _ _ (by omega)) ?_
  simp only [decide_true, if_true]
  refine Ev.bind (heldIntS_ev _ 1 (by omega) (by omega) (by omega)) ?_
  simp only [if_neg (show ¬ (1 + ((setAL l0 l1 false).length : Int) < 0) by omega), if_true]
  exact Ev.now _

end Go.Proofs.Ytalddeknbjfgcaa.Pure
