/- The plain law of FnExactSetOr: whatever the input, the printed function of this law answers true after enough rounds; conditions: only the sizes and kinds that the law's Pure states. -/
import Derived.Test.YtglcgkbecfmegaaPFnExactSetOrx3
import Derived.Test.YtglcgkbecfmegaaWSized
namespace Go.Proofs.Ytglcgkbecfmegaa.PrintWords
abbrev sized_ints := @Go.Proofs.YtglcgkbecfmegaaW.PrintWords.sized_ints
end Go.Proofs.Ytglcgkbecfmegaa.PrintWords
namespace Go.Proofs.Ytglcgkbecfmegaa.Pure
open Go.RowKit Go.Proofs.Ytglcgkbecfmegaa.PFnExactSetOr Go.Proofs.YtglcgkbecfmegaaW.PrintWords Go.Proofs.YtglcgkbecfmegaaW.PrintLast
set_option linter.unusedVariables false
set_option linter.unusedSimpArgs false

def okFrom (l : List Int) (j : Nat) : Prop := (∀ (i : Nat) (h : i < l.length), j ≤ i → (0 ≤ l[i] ∧ l[i] ≤ 999999999) ∧ (0 < i → l[i - 1] < l[i])) ∧ l.length ≤ 16

def setOk (l : List Int) : Prop := okFrom l 0

open Classical in
noncomputable def setOkB (l : List Int) : Bool := decide (setOk l)

theorem kept_some (d : Array Int) : ∀ i : Nat, ∃ j, j ≤ i ∧ Lib.keeps d j = true ∧ d[j]! = d[i]!
  | 0 => ⟨0, Nat.le_refl _, by simp [Lib.keeps], rfl⟩
  | i + 1 => by
    by_cases h : d[i + 1]! = d[i]!
    · obtain ⟨j, h1, h2, h3⟩ := kept_some d i
      exact ⟨j, by omega, h2, h3.trans h.symm⟩
    · exact ⟨i + 1, Nat.le_refl _, by simp only [Lib.keeps, Nat.add_sub_cancel]; exact decide_eq_true (.inr h), rfl⟩

theorem mem_compactUpTo (d : Array Int) (m : Nat) (z : Int) : z ∈ Lib.compactUpTo d m ↔ ∃ j, j < m ∧ Lib.keeps d j = true ∧ d[j]! = z := by
  unfold Lib.compactUpTo
  simp only [List.mem_map, List.mem_filter, List.mem_range]
  constructor
  · rintro ⟨j, ⟨h1, h2⟩, h3⟩; exact ⟨j, h1, h2, h3⟩
  · rintro ⟨j, h1, h2, h3⟩; exact ⟨j, ⟨h1, h2⟩, h3⟩

theorem mem_compact (l : List Int) (z : Int) : z ∈ Lib.compact l ↔ z ∈ l := by
  unfold Lib.compact
  rw [mem_compactUpTo]
  constructor
  · rintro ⟨j, h1, _, h3⟩
    have h4 : l.toArray[j]! = l[j] := by rw [getElem!_pos l.toArray j (by simpa using h1)]; simp
    rw [h4] at h3
    exact h3 ▸ List.getElem_mem h1
  · intro h
    obtain ⟨i, hi, rfl⟩ := List.mem_iff_getElem.1 h
    obtain ⟨j, h1, h2, h3⟩ := kept_some l.toArray i
    refine ⟨j, by omega, h2, h3.trans ?_⟩
    rw [getElem!_pos l.toArray i (by simpa using hi)]; simp

theorem rising_compact (l : List Int) (h : l.Pairwise (· ≤ ·)) : (Lib.compact l).Pairwise (· < ·) := by
  unfold Lib.compact Lib.compactUpTo
  rw [List.pairwise_map, List.pairwise_filter]
  refine List.Pairwise.imp_of_mem ?_ List.pairwise_lt_range
  intro i j hi hj hij _ hk
  have hi := List.mem_range.1 hi
  have hj := List.mem_range.1 hj
  have g : ∀ q (hq : q < l.length), l.toArray[q]! = l[q] := fun q hq => by rw [getElem!_pos l.toArray q (by simpa using hq)]; simp
  have hk := of_decide_eq_true hk
  rcases hk with hk | hk
  · omega
  · rw [g j hj, g (j - 1) (by omega)] at hk
    have h1 : l[i] ≤ l[j - 1] := by
      rcases Nat.lt_or_ge i (j - 1) with h2 | h2
      · exact List.pairwise_iff_getElem.1 h i (j - 1) hi (by omega) h2
      · have : i = j - 1 := by omega
        subst this; exact Int.le_refl _
    have h2 := List.pairwise_iff_getElem.1 h (j - 1) j (by omega) hj (by omega)
    rw [g i hi, g j hj]
    omega

/-- Two rising rows of the same elements are one. -/
theorem rising_ext : ∀ {a b : List Int}, a.Pairwise (· < ·) → b.Pairwise (· < ·) → (∀ x, x ∈ a ↔ x ∈ b) → a = b
  | [], [], _, _, _ => rfl
  | [], y :: ys, _, _, h => absurd ((h y).2 (List.mem_cons_self ..)) (by simp)
  | x :: xs, [], _, _, h => absurd ((h x).1 (List.mem_cons_self ..)) (by simp)
  | x :: xs, y :: ys, ha, hb, h => by
    have ha' := List.pairwise_cons.1 ha
    have hb' := List.pairwise_cons.1 hb
    have e : x = y := by
      have h1 := (h x).1 (List.mem_cons_self ..)
      have h2 := (h y).2 (List.mem_cons_self ..)
      rcases List.mem_cons.1 h1 with h1 | h1
      · exact h1
      · rcases List.mem_cons.1 h2 with h2 | h2
        · exact h2.symm
        · have := ha'.1 y h2; have := hb'.1 x h1; omega
    subst e
    congr 1
    refine rising_ext ha'.2 hb'.2 (fun z => ?_)
    have hz := h z
    rw [List.mem_cons, List.mem_cons] at hz
    constructor
    · intro hz1
      rcases hz.1 (.inr hz1) with h3 | h3
      · subst h3; have := ha'.1 z hz1; omega
      · exact h3
    · intro hz1
      rcases hz.2 (.inr hz1) with h3 | h3
      · subst h3; have := hb'.1 z hz1; omega
      · exact h3

def uniGo (x : Int) (f : List Int → List Int) : List Int → List Int
  | [] => x :: f []
  | y :: b => if y < x then y :: uniGo x f b else if y = x then x :: f b else x :: f (y :: b)

theorem mem_uniGo (x : Int) (f : List Int → List Int) (p : Int → Prop) (hf : ∀ b z, z ∈ f b ↔ p z ∨ z ∈ b) : ∀ b z, z ∈ uniGo x f b ↔ (z = x ∨ p z) ∨ z ∈ b
  | [], z => by simp [uniGo, hf]
  | y :: b, z => by
    have h1 := mem_uniGo x f p hf b z
    unfold uniGo
    split
    · rw [List.mem_cons, h1, List.mem_cons]; constructor
      · rintro (h | (h | h) | h)
        · exact .inr (.inl h)
        · exact .inl (.inl h)
        · exact .inl (.inr h)
        · exact .inr (.inr h)
      · rintro ((h | h) | h | h)
        · exact .inr (.inl (.inl h))
        · exact .inr (.inl (.inr h))
        · exact .inl h
        · exact .inr (.inr h)
    · split
      · next e => rw [List.mem_cons, hf, List.mem_cons, e]; constructor
                  · rintro (h | h | h)
                    · exact .inl (.inl h)
                    · exact .inl (.inr h)
                    · exact .inr (.inr h)
                  · rintro ((h | h) | h | h)
                    · exact .inl h
                    · exact .inr (.inl h)
                    · exact .inl h
                    · exact .inr (.inr h)
      · rw [List.mem_cons, hf]; constructor
        · rintro (h | h | h)
          · exact .inl (.inl h)
          · exact .inl (.inr h)
          · exact .inr h
        · rintro ((h | h) | h)
          · exact .inl h
          · exact .inr (.inl h)
          · exact .inr (.inr h)

def uni : List Int → List Int → List Int
  | [], b => b
  | x :: a, b => uniGo x (uni a) b

theorem mem_uni : ∀ (a b : List Int) (z : Int), z ∈ uni a b ↔ z ∈ a ∨ z ∈ b
  | [], b, z => by simp [uni]
  | x :: a, b, z => by
    have := mem_uniGo x (uni a) (fun z => z ∈ a) (fun b z => mem_uni a b z) b z
    simp only [uni, List.mem_cons]; exact this

theorem rising_uniGo (x : Int) (a : List Int) (hx : ∀ z ∈ a, x < z) (hf : ∀ b, b.Pairwise (· < ·) → (uni a b).Pairwise (· < ·)) : ∀ b, b.Pairwise (· < ·) → (uniGo x (uni a) b).Pairwise (· < ·)
  | [], _ => by
    simp only [uniGo]
    refine List.pairwise_cons.2 ⟨fun z hz => ?_, hf [] List.Pairwise.nil⟩
    rcases (mem_uni a [] z).1 hz with h | h
    · exact hx z h
    · simp at h
  | y :: b, hb => by
    have hb' := List.pairwise_cons.1 hb
    unfold uniGo
    split
    · next e =>
      refine List.pairwise_cons.2 ⟨fun z hz => ?_, rising_uniGo x a hx hf b hb'.2⟩
      rcases (mem_uniGo x (uni a) (fun z => z ∈ a) (fun b z => mem_uni a b z) b z).1 hz with (h | h) | h
      · omega
      · have := hx z h; omega
      · exact hb'.1 z h
    · split
      · next e =>
        refine List.pairwise_cons.2 ⟨fun z hz => ?_, hf b hb'.2⟩
        rcases (mem_uni a b z).1 hz with h | h
        · exact hx z h
        · have := hb'.1 z h; omega
      · next e =>
        refine List.pairwise_cons.2 ⟨fun z hz => ?_, hf _ hb⟩
        rcases (mem_uni a (y :: b) z).1 hz with h | h
        · exact hx z h
        · rcases List.mem_cons.1 h with h | h
          · omega
          · have := hb'.1 z h; omega

theorem rising_uni : ∀ (a b : List Int), a.Pairwise (· < ·) → b.Pairwise (· < ·) → (uni a b).Pairwise (· < ·)
  | [], b, _, hb => hb
  | x :: a, b, ha, hb => by
    have ha' := List.pairwise_cons.1 ha
    exact rising_uniGo x a ha'.1 (fun b hb => rising_uni a b ha'.2 hb) b hb

theorem sort_compact (a b : List Int) (ha : a.Pairwise (· < ·)) (hb : b.Pairwise (· < ·)) : Lib.compact ((a ++ b).mergeSort fun x y => decide (x ≤ y)) = uni a b := by
  refine rising_ext (rising_compact _ ?_) (rising_uni a b ha hb) (fun x => ?_)
  · have := List.pairwise_mergeSort (le := fun x y : Int => decide (x ≤ y)) (fun a b c h1 h2 => by simp at *; omega) (fun a b => by simp; omega) (a ++ b)
    exact this.imp (fun h => by simpa using h)
  · rw [mem_compact, List.mem_mergeSort, List.mem_append, mem_uni]

theorem okFrom_end {l : List Int} {j : Nat} (hj : l.length ≤ j) : okFrom l j ↔ l.length ≤ 16 := ⟨fun h => h.2, fun h => ⟨fun i hi hji => by omega, h⟩⟩

theorem okFrom_step {l : List Int} {j : Nat} (hj : j < l.length) : okFrom l j ↔ ((0 ≤ l[j] ∧ l[j] ≤ 999999999) ∧ (0 < j → l[j - 1] < l[j])) ∧ okFrom l (j + 1) := by
  constructor
  · rintro ⟨h, h2⟩
    exact ⟨h j hj (Nat.le_refl _), fun i hi hji => h i hi (by omega), h2⟩
  · rintro ⟨h, h1, h2⟩
    refine ⟨fun i hi hji => ?_, h2⟩
    rcases Nat.lt_or_ge j i with hlt | hge
    · exact h1 i hi hlt
    · obtain rfl : i = j := by omega
      exact h

theorem ev_eq {α : Type} {g : Nat → Option α} {r : α} (h : ∀ k, g k = some r) : Ev g r := ⟨0, fun k _ => h k⟩

theorem ev_prop {g : Nat → Option Bool} {p q : Prop} [Decidable p] [Decidable q] (h : p ↔ q) (k : Ev g (decide p)) : Ev g (decide q) := by
  have : decide p = decide q := decide_eq_decide.2 h
  rw [← this]; exact k

theorem rd_get (l : List Int) (j : Nat) (h : j < l.length) : rd l (j : Int) = l[j] := by
  unfold rd; simp [List.getD_eq_getElem?_getD, List.getElem?_eq_getElem h]

theorem wrap_id {x : Int} (h0 : -9223372036854775808 ≤ x) (h1 : x ≤ 9223372036854775807) : wrap64 x = x := by unfold wrap64; omega

theorem wpred (j : Nat) (h : j < 9223372036854775807) : wrap64 (((j + 1 : Nat) : Int) - 1) = (j : Int) := by rw [wrap_id (by omega) (by omega)]; omega

theorem wsucc (j : Nat) (h : j < 9223372036854775807) : wrap64 ((j : Int) + 1) = ((j + 1 : Nat) : Int) := by rw [wrap_id (by omega) (by omega)]; omega

theorem impl_within_eq (a b c : Int) : impl_within.f a b c = some (decide (b ≤ a ∧ a ≤ c)) := by
  unfold impl_within.f
  by_cases h : a ≥ b
  · rw [if_pos h]; congr 1; exact decide_eq_decide.2 ⟨fun h2 => ⟨h, h2⟩, fun h2 => h2.2⟩
  · rw [if_neg h]; congr 1; symm; exact decide_eq_false (fun h2 => h h2.1)

open Classical in
theorem impl_SetOk_l0 (l : List Int) (hn : l.length < 4611686018427387904) : ∀ (d i : Nat), i + d = l.length → Ev (fun k => impl_SetOk.l0 k l l (l.length : Int) (i : Int)) (decide (okFrom l i)) := by
  intro d
  induction d with
  | zero =>
    intro i hi
    refine Ev.step (fun k => impl_SetOk.l0.eq_2 _ _ _ _ _) ?_
    simp only [if_neg (show ¬ ((i : Int) < (l.length : Int)) by omega)]
    refine ev_prop (okFrom_end (by omega)).symm ?_
    refine ev_eq fun _ => ?_
    congr 1; exact decide_eq_decide.2 (by omega)
  | succ d ih =>
    intro i hi
    have hs := okFrom_step (l := l) (j := i) (by omega)
    refine Ev.step (fun k => impl_SetOk.l0.eq_2 _ _ _ _ _) ?_
    simp only [if_pos (show ((i : Int) < (l.length : Int)) by omega), if_pos (show 0 ≤ (i : Int) by omega), wsucc i (by omega), rd_get l i (by omega), impl_within_eq, Option.bind_some, decide_eq_true_eq]
    by_cases h1 : 0 ≤ l[i] ∧ l[i] ≤ 999999999
    · simp only [if_pos h1]
      cases i with
      | zero =>
        simp only [if_neg (show ¬ (((0 : Nat) : Int) > 0) by omega)]
        exact ev_prop (hs.trans ⟨fun h => h.2, fun h => ⟨⟨h1, fun h0 => by omega⟩, h⟩⟩).symm (ih 1 (by omega))
      | succ j =>
        simp only [if_pos (show (((j + 1 : Nat) : Int) > 0) by omega), wpred j (by omega), if_pos (show 0 ≤ (j : Int) by omega), if_pos (show ((j : Int) < (l.length : Int)) by omega), rd_get l j (by omega)]
        by_cases h2 : l[j] ≥ l[j + 1]
        · simp only [if_pos h2]
          have : decide (okFrom l (j + 1)) = false := decide_eq_false (fun h => by have := (hs.1 h).1.2 (by omega); simp at this; omega)
          rw [this]; exact Ev.now _
        · simp only [if_neg h2]
          exact ev_prop (hs.trans ⟨fun h => h.2, fun h => ⟨⟨h1, fun _ => by simp; omega⟩, h⟩⟩).symm (ih (j + 2) (by omega))
    · simp only [if_neg h1]
      have : decide (okFrom l i) = false := decide_eq_false (fun h => h1 (hs.1 h).1.1)
      rw [this]; exact Ev.now _

theorem impl_SetOk_ev (l : List Int) (hn : l.length < 4611686018427387904) : Ev (fun k => impl_SetOk.f k l) (setOkB l) := impl_SetOk_l0 l hn l.length 0 (by omega)

theorem impl_setsOk_ev (a b : List Int) (ha : a.length < 4398046511104) (hb : b.length < 4398046511104) : Ev (fun k => impl_setsOk.f k a b) (setOkB a && setOkB b) := by
  simp only [impl_setsOk.f]
  refine Ev.bind (impl_SetOk_ev a (by omega)) ?_
  cases setOkB a with
  | false => exact Ev.now _
  | true => exact Ev.bind (impl_SetOk_ev b (by omega)) (Ev.now _)

open Classical in
theorem setOkB_iff {l : List Int} : setOkB l = true ↔ setOk l := by unfold setOkB; exact decide_eq_true_iff

/-- A set: in range, rising, not too many. -/
theorem setOk_iff {l : List Int} : setOkB l = true ↔ (∀ x ∈ l, 0 ≤ x ∧ x ≤ 999999999) ∧ l.Pairwise (· < ·) ∧ l.length ≤ 16 := by
  rw [setOkB_iff]
  unfold setOk okFrom
  constructor
  · rintro ⟨h, h2⟩
    refine ⟨fun x hx => ?_, ?_, h2⟩
    · obtain ⟨i, hi, rfl⟩ := List.mem_iff_getElem.1 hx
      exact (h i hi (Nat.zero_le _)).1
    · have key : ∀ (d i : Nat) (hd : i + d < l.length), 0 < d → l[i]'(by omega) < l[i + d] := by
        intro d
        induction d with
        | zero => intro i hd h0; omega
        | succ d ih =>
          intro i hd _
          have h3 := (h (i + (d + 1)) hd (Nat.zero_le _)).2 (by omega)
          have e : i + (d + 1) - 1 = i + d := by omega
          simp only [e] at h3
          rcases Nat.eq_zero_or_pos d with h4 | h4
          · subst h4; exact h3
          · exact Int.lt_trans (ih i (by omega) h4) h3
      rw [List.pairwise_iff_getElem]
      intro i j hi hj hij
      have := key (j - i) i (by omega) (by omega)
      have e : i + (j - i) = j := by omega
      simp only [e] at this
      exact this
  · rintro ⟨h1, h2, h3⟩
    refine ⟨fun i hi _ => ⟨h1 _ (List.getElem_mem _), fun h0 => ?_⟩, h3⟩
    exact List.pairwise_iff_getElem.1 h2 (i - 1) i (by omega) hi (by omega)

noncomputable def orAL (a b : List Int) : List Int := if (setOkB a && setOkB b) = true then uni a b else []

theorem uniGo_length (x : Int) (f : List Int → List Int) (n : Nat) (hf : ∀ b, (f b).length ≤ n + b.length) : ∀ b, (uniGo x f b).length ≤ n + 1 + b.length
  | [] => by have := hf []; simp only [uniGo, List.length_cons, List.length_nil] at *; omega
  | y :: b => by
    have h1 := uniGo_length x f n hf b
    have h2 := hf b
    have h3 := hf (y :: b)
    simp only [uniGo, List.length_cons] at *
    split
    · simp only [List.length_cons]; omega
    · split <;> simp only [List.length_cons] <;> omega

theorem uni_length : ∀ a b, (uni a b).length ≤ a.length + b.length
  | [], b => by simp [uni]
  | x :: a, b => by
    have := uniGo_length x (uni a) a.length (uni_length a) b
    simp only [uni, List.length_cons]; omega

theorem impl_SetOr_ev (a b : List Int) (ha : a.length < 4398046511104) (hb : b.length < 4398046511104) : Ev (fun k => impl_SetOr.f k a b) (orAL a b) := by
  simp only [impl_SetOr.f, orAL]
  refine Ev.bind (impl_setsOk_ev a b ha hb) ?_
  cases h : (setOkB a && setOkB b) with
  | false => exact Ev.now _
  | true =>
    rw [Bool.and_eq_true] at h
    have h1 := sort_compact a b (setOk_iff.1 h.1).2.1 (setOk_iff.1 h.2).2.1
    have h2 := uni_length a b
    simp only [if_true, Option.bind_some, List.nil_append, List.length_nil, Nat.zero_add]
    simp only [if_pos (show a.length < 17592186044416 by omega), if_pos (show a.length + b.length < 17592186044416 by omega), slices_Sort_int_int.f, slices_Compact_int_int.f, List.length_append, if_pos (show a.length + b.length < 4611686018427387904 by omega), Option.bind_some, h1, if_pos (show (uni a b).length < 17592186044416 by omega)]
    exact Ev.now _

theorem spec_l1In_eq (a b c : Int) : spec_l1In.f a b c = some (decide (b ≤ a ∧ a ≤ c)) := by
  unfold spec_l1In.f
  by_cases h : a ≥ b
  · rw [if_pos h]; congr 1; exact decide_eq_decide.2 ⟨fun h2 => ⟨h, h2⟩, fun h2 => h2.2⟩
  · rw [if_neg h]; congr 1; symm; exact decide_eq_false (fun h2 => h h2.1)

open Classical in
theorem spec_SetOk_l0 (l : List Int) (hn : l.length < 4611686018427387904) : ∀ (d i : Nat), i + d = l.length → Ev (fun k => spec_SetOk.l0 k l (i : Int)) (decide (okFrom l i)) := by
  intro d
  induction d with
  | zero =>
    intro i hi
    refine Ev.step (fun k => spec_SetOk.l0.eq_2 _ _ _) ?_
    simp only [if_neg (show ¬ ((i : Int) < (l.length : Int)) by omega)]
    refine ev_prop (okFrom_end (by omega)).symm ?_
    refine ev_eq fun _ => ?_
    congr 1; exact decide_eq_decide.2 (by omega)
  | succ d ih =>
    intro i hi
    have hs := okFrom_step (l := l) (j := i) (by omega)
    refine Ev.step (fun k => spec_SetOk.l0.eq_2 _ _ _) ?_
    simp only [if_pos (show ((i : Int) < (l.length : Int)) by omega), if_pos (show 0 ≤ (i : Int) by omega), wsucc i (by omega), rd_get l i (by omega), spec_l1In_eq, Option.bind_some, decide_eq_true_eq]
    by_cases h1 : 0 ≤ l[i] ∧ l[i] ≤ 999999999
    · simp only [if_pos h1]
      cases i with
      | zero =>
        simp only [if_neg (show ¬ (((0 : Nat) : Int) > 0) by omega)]
        exact ev_prop (hs.trans ⟨fun h => h.2, fun h => ⟨⟨h1, fun h0 => by omega⟩, h⟩⟩).symm (ih 1 (by omega))
      | succ j =>
        simp only [if_pos (show (((j + 1 : Nat) : Int) > 0) by omega), wpred j (by omega), if_pos (show 0 ≤ (j : Int) by omega), if_pos (show ((j : Int) < (l.length : Int)) by omega), rd_get l j (by omega)]
        by_cases h2 : l[j] ≥ l[j + 1]
        · simp only [if_pos h2]
          have : decide (okFrom l (j + 1)) = false := decide_eq_false (fun h => by have := (hs.1 h).1.2 (by omega); simp at this; omega)
          rw [this]; exact Ev.now _
        · simp only [if_neg h2]
          exact ev_prop (hs.trans ⟨fun h => h.2, fun h => ⟨⟨h1, fun _ => by simp; omega⟩, h⟩⟩).symm (ih (j + 2) (by omega))
    · simp only [if_neg h1]
      have : decide (okFrom l i) = false := decide_eq_false (fun h => h1 (hs.1 h).1.1)
      rw [this]; exact Ev.now _

theorem spec_SetOk_ev (l : List Int) (hn : l.length < 4611686018427387904) : Ev (fun k => spec_SetOk.f k l) (setOkB l) := spec_SetOk_l0 l hn l.length 0 (by omega)

theorem l3Or_l0 (a b : List Int) (acc : List Int) (i j : Nat) (hj : j ≤ b.length) (hacc : acc.length + (b.length - j) < 17592186044416)
    (h : i < a.length → Ev (fun k => spec_l3Or.l1 k a b acc (j : Int) (i : Int)) (acc ++ uni (a.drop i) (b.drop j))) :
    Ev (fun k => spec_l3Or.l0 k a b acc (j : Int) (i : Int)) (acc ++ uni (a.drop i) (b.drop j)) := by
  refine Ev.step (fun k => spec_l3Or.l0.eq_2 _ _ _ _ _ _) ?_
  by_cases hlt : i < a.length
  · simp only [if_pos (show ((i : Int) < (a.length : Int)) by omega)]
    exact h hlt
  · simp only [if_neg (show ¬ ((i : Int) < (a.length : Int)) by omega), if_pos (show 0 ≤ (j : Int) by omega), if_pos (show (j : Int) ≤ (b.length : Int) by omega), Int.toNat_natCast, List.length_drop, if_pos hacc]
    rw [List.drop_eq_nil_of_le (show a.length ≤ i by omega)]
    exact Ev.now _

theorem l3Or_l1 (a b : List Int) (ha : a.length < 4398046511104) (hb : b.length < 4398046511104) : ∀ (n i j : Nat) (acc : List Int), (a.length - i) + (b.length - j) ≤ n → i < a.length → j ≤ b.length → acc.length + n ≤ 8796093022208 →
    Ev (fun k => spec_l3Or.l1 k a b acc (j : Int) (i : Int)) (acc ++ uni (a.drop i) (b.drop j)) := by
  intro n
  induction n with
  | zero => intro i j acc hn hi; omega
  | succ n ih =>
    intro i j acc hn hi hj hacc
    have ed : a.drop i = a[i] :: a.drop (i + 1) := List.drop_eq_getElem_cons hi
    refine Ev.step (fun k => spec_l3Or.l1.eq_2 _ _ _ _ _ _) ?_
    by_cases hlt : j < b.length
    · have eb : b.drop j = b[j] :: b.drop (j + 1) := List.drop_eq_getElem_cons hlt
      simp only [if_pos (show ((j : Int) < (b.length : Int)) by omega), if_pos (show 0 ≤ (j : Int) by omega), if_pos (show 0 ≤ (i : Int) by omega), if_pos (show ((i : Int) < (a.length : Int)) by omega), rd_get b j hlt, rd_get a i hi, if_pos (show acc.length < 17592186044416 by omega), wsucc j (by omega), wsucc i (by omega)]
      by_cases h1 : b[j] < a[i]
      · simp only [if_pos h1]
        have := ih i (j + 1) (acc ++ [b[j]]) (by omega) hi (by omega) (by simp; omega)
        rw [ed, eb, uni, uniGo, if_pos h1]
        rw [ed, uni, List.append_assoc] at this
        exact this
      · simp only [if_neg h1]
        by_cases h2 : b[j] = a[i]
        · simp only [if_pos h2]
          have := l3Or_l0 a b (acc ++ [a[i]]) (i + 1) (j + 1) (by omega) (by simp; omega) (fun h => ih (i + 1) (j + 1) (acc ++ [a[i]]) (by omega) h (by omega) (by simp; omega))
          rw [ed, eb, uni, uniGo, if_neg h1, if_pos h2]
          rw [List.append_assoc] at this
          exact this
        · simp only [if_neg h2]
          have := l3Or_l0 a b (acc ++ [a[i]]) (i + 1) j (by omega) (by simp; omega) (fun h => ih (i + 1) j (acc ++ [a[i]]) (by omega) h (by omega) (by simp; omega))
          rw [ed, eb, uni, uniGo, if_neg h1, if_neg h2, ← eb]
          rw [List.append_assoc] at this
          exact this
    · have eb : b.drop j = [] := List.drop_eq_nil_of_le (by omega)
      simp only [if_neg (show ¬ ((j : Int) < (b.length : Int)) by omega), if_pos (show 0 ≤ (i : Int) by omega), if_pos (show ((i : Int) < (a.length : Int)) by omega), rd_get a i hi, if_pos (show acc.length < 17592186044416 by omega), wsucc i (by omega)]
      have := l3Or_l0 a b (acc ++ [a[i]]) (i + 1) j (by omega) (by simp; omega) (fun h => ih (i + 1) j (acc ++ [a[i]]) (by omega) h (by omega) (by simp; omega))
      rw [ed, eb, uni, uniGo]
      rw [List.append_assoc, eb] at this
      exact this

theorem spec_l3Or_ev (a b : List Int) (ha : a.length < 4398046511104) (hb : b.length < 4398046511104) : Ev (fun k => spec_l3Or.f k a b) (uni a b) := by
  simp only [spec_l3Or.f]
  exact l3Or_l0 a b [] 0 0 (Nat.zero_le _) (by simp; omega) (fun h => l3Or_l1 a b ha hb _ 0 0 [] (Nat.le_refl _) h (Nat.zero_le _) (by simp; omega))

theorem spec_SetOr_ev (a b : List Int) (ha : a.length < 4398046511104) (hb : b.length < 4398046511104) : Ev (fun k => spec_SetOr.f k a b) (orAL a b) := by
  simp only [spec_SetOr.f, orAL]
  refine Ev.bind (spec_SetOk_ev a (by omega)) ?_
  cases setOkB a with
  | false => exact Ev.now _
  | true =>
    simp only [if_true]
    refine Ev.bind (spec_SetOk_ev b (by omega)) ?_
    cases setOkB b with
    | false => exact Ev.now _
    | true => exact Ev.bind (spec_l3Or_ev a b ha hb) (Ev.now _)

theorem drop_eq_step {α : Type} {a b : List α} {j : Nat} (ha : j < a.length) (hb : j < b.length) : a.drop j = b.drop j ↔ a[j] = b[j] ∧ a.drop (j + 1) = b.drop (j + 1) := by
  rw [List.drop_eq_getElem_cons ha, List.drop_eq_getElem_cons hb, List.cons.injEq]

theorem ev_false {g : Nat → Option Bool} {p : Prop} [Decidable p] (h : ¬ p) (k : Ev g false) : Ev g (decide p) := by
  rw [decide_eq_false h]; exact k

theorem eqIntS_l0 (a b : List Int) (hn : a.length < 4611686018427387904) (hl : a.length = b.length) : ∀ (d i : Nat), i + d = a.length →
    Ev (fun k => laws_eqIntS.l0 k a b (i : Int)) (decide (a.drop i = b.drop i)) := by
  intro d
  induction d with
  | zero =>
    intro i hi
    refine Ev.step (fun k => laws_eqIntS.l0.eq_2 _ _ _ _) ?_
    simp only [if_neg (show ¬ ((i : Int) < (a.length : Int)) by omega)]
    rw [List.drop_of_length_le (by omega), List.drop_of_length_le (by omega)]
    exact Ev.now _
  | succ d ih =>
    intro i hi
    refine Ev.step (fun k => laws_eqIntS.l0.eq_2 _ _ _ _) ?_
    simp only [if_pos (show ((i : Int) < (a.length : Int)) by omega), if_pos (show 0 ≤ (i : Int) by omega), if_pos (show ((i : Int) < (b.length : Int)) by omega), wsucc i (by omega), rd_get a i (by omega), rd_get b i (by omega)]
    have hs := drop_eq_step (a := a) (b := b) (show i < a.length by omega) (show i < b.length by omega)
    by_cases h : a[i] = b[i]
    · simp only [if_pos h]
      exact ev_prop (hs.trans ⟨fun h1 => h1.2, fun h1 => ⟨h, h1⟩⟩).symm (ih (i + 1) (by omega))
    · simp only [if_neg h]
      exact ev_false (fun h1 => h (hs.1 h1).1) (Ev.now _)

theorem eqIntS_ev (a b : List Int) (hn : a.length < 4611686018427387904) : Ev (fun k => laws_eqIntS.f k a b) (decide (a = b)) := by
  simp only [laws_eqIntS.f]
  by_cases hl : a.length = b.length
  · simp only [if_pos (show (a.length : Int) = (b.length : Int) by omega)]
    exact eqIntS_l0 a b hn hl a.length 0 (by omega)
  · simp only [if_neg (show ¬ (a.length : Int) = (b.length : Int) by omega)]
    have : decide (a = b) = false := by simp; intro h; exact hl (by rw [h])
    rw [this]; exact Ev.now _

theorem drop_get {α : Type} (l : List α) (j : Nat) (h : j < l.length) : l.drop j = l[j] :: l.drop (j + 1) := List.drop_eq_getElem_cons h

def mkInts (a : Int) : Nat → List Int
  | 0 => []
  | n + 1 => a :: mkInts (a + 1) n

theorem heldIntS_l0 (l : List Int) (hn : l.length < 4611686018427387904) : ∀ (d i : Nat) (a : Int), i + d = l.length → 0 ≤ a → a + d < 4611686018427387904 → l.drop i = mkInts a d →
    Ev (fun k => laws_heldIntS.l0 k l a (i : Int)) (a + d) := by
  intro d
  induction d with
  | zero =>
    intro i a hi ha hb hd
    refine Ev.step (fun k => laws_heldIntS.l0.eq_2 _ _ _ _) ?_
    simp only [if_neg (show ¬ ((i : Int) < (l.length : Int)) by omega)]
    simpa using Ev.now a
  | succ d ih =>
    intro i a hi ha hb hd
    refine Ev.step (fun k => laws_heldIntS.l0.eq_2 _ _ _ _) ?_
    rw [drop_get l i (by omega)] at hd
    simp only [mkInts, List.cons.injEq] at hd
    simp only [if_pos (show ((i : Int) < (l.length : Int)) by omega), if_pos (show 0 ≤ (i : Int) by omega), wsucc i (by omega), rd_get l i (by omega), if_pos hd.1, wrap_id (x := a + 1) (by omega) (by omega)]
    have h := ih (i + 1) (a + 1) (by omega) (by omega) (by omega) hd.2
    have e : a + 1 + (d : Int) = a + ((d + 1 : Nat) : Int) := by omega
    rw [← e]; exact h

theorem mkInts_length (a : Int) (n : Nat) : (mkInts a n).length = n := by
  induction n generalizing a with
  | zero => rfl
  | succ n ih => simp [mkInts, ih]

theorem heldIntS_ev (n : Nat) (a : Int) (hn : n < 1152921504606846976) (ha : 0 ≤ a) (hb : a < 1152921504606846976) : Ev (fun k => laws_heldIntS.f k (mkInts a n) a) (a + n) :=
  heldIntS_l0 (mkInts a n) (by rw [mkInts_length]; omega) n 0 a (by rw [mkInts_length]; omega) ha (by omega) rfl

theorem toNat_cast (i : Nat) : ((i : Int)).toNat = i := by simp

theorem markIntS_l0 : ∀ (d i : Nat) (l : List Int) (a : Int), i + d = l.length → l.length < 4611686018427387904 → 0 ≤ a → a + d < 4611686018427387904 →
    Ev (fun k => laws_markIntS.l0 k l a (i : Int)) (a + d, l.take i ++ mkInts a d) := by
  intro d
  induction d with
  | zero =>
    intro i l a hi hn ha hb
    refine Ev.step (fun k => laws_markIntS.l0.eq_2 _ _ _ _) ?_
    simp only [if_neg (show ¬ ((i : Int) < (l.length : Int)) by omega)]
    have : (a + ((0 : Nat) : Int), l.take i ++ mkInts a 0) = (a, l) := by simp [mkInts, List.take_of_length_le (show l.length ≤ i by omega)]
    rw [this]; exact Ev.now _
  | succ d ih =>
    intro i l a hi hn ha hb
    refine Ev.step (fun k => laws_markIntS.l0.eq_2 _ _ _ _) ?_
    simp only [if_pos (show ((i : Int) < (l.length : Int)) by omega), if_pos (show 0 ≤ (i : Int) by omega), wsucc i (by omega), toNat_cast, wrap_id (x := a + 1) (by omega) (by omega)]
    have h := ih (i + 1) (l.set i a) (a + 1) (by simp; omega) (by simp; omega) (by omega) (by omega)
    have e : (l.set i a).take (i + 1) = l.take i ++ [a] := by
      rw [List.take_add_one, List.take_set_of_le (Nat.le_refl _), List.getElem?_set_self (by omega)]; rfl
    rw [e] at h
    have e2 : (a + 1 + (d : Int), l.take i ++ [a] ++ mkInts (a + 1) d) = (a + ((d + 1 : Nat) : Int), l.take i ++ mkInts a (d + 1)) := by
      simp [mkInts]; omega
    rw [← e2]; exact h

theorem markIntS_ev (l : List Int) (a : Int) (hn : l.length < 1152921504606846976) (ha : 0 ≤ a) (hb : a < 1152921504606846976) : Ev (fun k => laws_markIntS.f k l a) (a + l.length, mkInts a l.length) :=
  markIntS_l0 l.length 0 l a (by omega) (by omega) ha (by omega)

theorem take_set_succ {α : Type} (l m : List α) (i : Nat) (v : α) (hl : i < l.length) (hm : i < m.length) (hv : m[i] = v) (h : l.take i = m.take i) : (l.set i v).take (i + 1) = m.take (i + 1) := by
  rw [List.take_add_one, List.take_add_one, List.take_set_of_le (Nat.le_refl _), h]
  congr 1
  rw [List.getElem?_set_self hl, List.getElem?_eq_getElem hm, hv]

theorem toIntS_l0 (x0 : List Int) (hn : x0.length < 4611686018427387904) : ∀ (d i : Nat) (x3 : List Int), i + d = x0.length → x3.length = x0.length → x3.take i = x0.take i →
    Ev (fun k => laws_toIntS.l0 k x0 x3 (i : Int)) x0 := by
  intro d
  induction d with
  | zero =>
    intro i x3 hi hl ht
    refine Ev.step (fun k => laws_toIntS.l0.eq_2 _ _ _ _) ?_
    simp only [if_neg (show ¬ ((i : Int) < (x0.length : Int)) by omega)]
    have : x3 = x0 := by rw [List.take_of_length_le (by omega), List.take_of_length_le (by omega)] at ht; exact ht
    rw [this]; exact Ev.now _
  | succ d ih =>
    intro i x3 hi hl ht
    refine Ev.step (fun k => laws_toIntS.l0.eq_2 _ _ _ _) ?_
    simp only [if_pos (show ((i : Int) < (x0.length : Int)) by omega), if_pos (show 0 ≤ (i : Int) by omega), if_pos (show ((i : Int) < (x3.length : Int)) by omega), wsucc i (by omega), toNat_cast, rd_get x0 i (by omega)]
    exact ih (i + 1) _ (by omega) (by simp [hl]) (take_set_succ _ _ _ _ (by omega) (by omega) rfl ht)

theorem toIntS_ev (x0 : List Int) (hn : x0.length ≤ 35184372088832) : Ev (fun k => laws_toIntS.f k x0) x0 := by
  simp only [laws_toIntS.f, if_pos (show 0 ≤ (x0.length : Int) by omega), toNat_cast, if_pos hn]
  exact toIntS_l0 x0 (by omega) x0.length 0 _ (by omega) (by simp) rfl

theorem orAL_length (a b : List Int) : (orAL a b).length ≤ a.length + b.length := by unfold orAL; split; exact uni_length _ _; simp

theorem FnExactSetOr : laws_FnExactSetOr.Pure := by
  intro l0 l1 hm0 hl0 hw0 hm1 hl1 hw1
  refine Ev.rounds (g := fun k => laws_FnExactSetOr.f k l0 l1) ?_
  simp only [laws_FnExactSetOr.f]
  by_cases hg : (l0.length : Int) > 1048576
  · simp only [if_pos hg]; exact Ev.now _
  simp only [if_neg hg]
  by_cases hg1 : (l1.length : Int) > 1048576
  · simp only [if_pos hg1]; exact Ev.now _
  simp only [if_neg hg1]
  have hr := orAL_length l0 l1
  refine Ev.bind (toIntS_ev l0 (by omega)) ?_
  refine Ev.bind (toIntS_ev l1 (by omega)) ?_
  refine Ev.bind (spec_SetOr_ev l0 l1 (by omega) (by omega)) ?_
  refine Ev.bind (toIntS_ev l0 (by omega)) ?_
  refine Ev.bind (toIntS_ev l1 (by omega)) ?_
  refine Ev.bind (impl_SetOr_ev l0 l1 (by omega) (by omega)) ?_
  refine Ev.bind (eqIntS_ev _ _ (by omega)) ?_
  simp only [decide_true, if_true]
  refine Ev.bind (toIntS_ev l0 (by omega)) ?_
  refine Ev.bind (eqIntS_ev _ _ (by omega)) ?_
  simp only [decide_true, if_true]
  refine Ev.bind (toIntS_ev l1 (by omega)) ?_
  refine Ev.bind (eqIntS_ev _ _ (by omega)) ?_
  simp only [decide_true, if_true]
  refine Ev.bind (markIntS_ev l0 1 (by omega) (by omega) (by omega)) ?_
  refine Ev.bind (markIntS_ev l1 (1 + l0.length) (by omega) (by omega) (by omega)) ?_
  simp only [if_neg (show ¬ (1 + (l0.length : Int) + (l1.length : Int) < 0) by omega)]
  refine Ev.bind (eqIntS_ev _ _ (by omega)) ?_
  simp only [decide_true, Bool.not_true]
  refine Ev.step (fun k => laws_FnExactSetOr.j0.eq_2 _ _ _ _ _ _) ?_
  simp only [if_neg (show ¬ (false = true) by decide)]
  have hlen : (mkInts 1 (orAL l0 l1).length).length = (orAL l0 l1).length := mkInts_length _ _
  refine Ev.bind (markIntS_ev (orAL l0 l1) 1 (by omega) (by omega) (by omega)) ?_
  refine Ev.bind (heldIntS_ev _ 1 (by omega) (by omega) (by omega)) ?_
  simp only [if_neg (show ¬ (1 + ((orAL l0 l1).length : Int) < 0) by omega), if_true]
  refine Ev.bind (toIntS_ev l0 (by omega)) ?_
  refine Ev.bind (toIntS_ev l1 (by omega)) ?_
  refine Ev.bind (impl_SetOr_ev l0 l1 (by omega) (by omega)) ?_
  refine Ev.bind (eqIntS_ev _ _ (by omega)) ?_
  simp only [decide_true, if_true]
  refine Ev.bind (heldIntS_ev _ 1 (by omega) (by omega) (by omega)) ?_
  simp only [if_neg (show ¬ (1 + ((orAL l0 l1).length : Int) < 0) by omega), if_true]
  exact Ev.now _

end Go.Proofs.Ytglcgkbecfmegaa.Pure
