/- The plain law of FnSetOr: whatever the input, the printed function of this law answers true after enough rounds; conditions: only the sizes and kinds that the law's Pure states. -/
import Derived.Test.YtglcgkbecfmegaaPFnSetOrx4
import Derived.Test.YtglcgkbecfmegaaWSized
namespace Go.Proofs.Ytglcgkbecfmegaa.PrintWords
abbrev sized_ints := @Go.Proofs.YtglcgkbecfmegaaW.PrintWords.sized_ints
end Go.Proofs.Ytglcgkbecfmegaa.PrintWords
namespace Go.Proofs.Ytglcgkbecfmegaa.Pure
open Go.RowKit Go.Proofs.Ytglcgkbecfmegaa.PFnSetOr Go.Proofs.YtglcgkbecfmegaaW.PrintWords Go.Proofs.YtglcgkbecfmegaaW.PrintLast
set_option linter.unusedVariables false
set_option linter.unusedSimpArgs false

def okFrom (l : List Int) (j : Nat) : Prop := (∀ (i : Nat) (h : i < l.length), j ≤ i → (0 ≤ l[i] ∧ l[i] ≤ 999999999) ∧ (0 < i → l[i - 1] < l[i])) ∧ l.length ≤ 16

def setOk (l : List Int) : Prop := okFrom l 0

open Classical in
noncomputable def setOkB (l : List Int) : Bool := decide (setOk l)

def pick3 (b : List Int) (f : Bool) (n : Int) : Bool := decide (n ∈ b) == f

def setPick (a b : List Int) (f : Bool) : List Int := a.filter (pick3 b f)

noncomputable def setAL (a b : List Int) (f : Bool) : List Int := if (setOkB a && setOkB b) = true then setPick a b f else []

theorem drop_get {α : Type} (l : List α) (j : Nat) (h : j < l.length) : l.drop j = l[j] :: l.drop (j + 1) := List.drop_eq_getElem_cons h

theorem rd_get (l : List Int) (j : Nat) (h : j < l.length) : rd l (j : Int) = l[j] := by
  unfold rd; simp [List.getD_eq_getElem?_getD, List.getElem?_eq_getElem h]

theorem wrap_id {x : Int} (h0 : -9223372036854775808 ≤ x) (h1 : x ≤ 9223372036854775807) : wrap64 x = x := by unfold wrap64; omega

theorem wsucc (j : Nat) (h : j < 9223372036854775807) : wrap64 ((j : Int) + 1) = ((j + 1 : Nat) : Int) := by rw [wrap_id (by omega) (by omega)]; omega

theorem mem_drop_step {α : Type} {l : List α} {j : Nat} {n : α} (h : j < l.length) : n ∈ l.drop j ↔ n = l[j] ∨ n ∈ l.drop (j + 1) := by
  rw [List.drop_eq_getElem_cons h, List.mem_cons]

theorem slices_Index_int_int_l0 (l : List Int) (n : Int) (hn : l.length < 4611686018427387904) : ∀ (d i : Nat), i + d = l.length → ∃ r : Int, Ev (fun k => slices_Index_int_int.l0 k l n (l.length : Int) (i : Int)) r ∧ decide (r ≥ 0) = decide (n ∈ l.drop i) := by
  intro d
  induction d with
  | zero =>
    intro i hi
    refine ⟨-1, Ev.step (fun k => slices_Index_int_int.l0.eq_2 _ _ _ _ _) ?_, ?_⟩
    · simp only [if_neg (show ¬ ((i : Int) < (l.length : Int)) by omega)]
      exact Ev.now _
    · rw [List.drop_of_length_le (by omega)]; simp
  | succ d ih =>
    intro i hi
    by_cases h : n = l[i]
    · refine ⟨(i : Int), Ev.step (fun k => slices_Index_int_int.l0.eq_2 _ _ _ _ _) ?_, ?_⟩
      · simp only [if_pos (show ((i : Int) < (l.length : Int)) by omega), if_pos (show 0 ≤ (i : Int) by omega), rd_get l i (by omega), if_pos h]
        exact Ev.now _
      · have hs := mem_drop_step (l := l) (n := n) (show i < l.length by omega); rw [decide_eq_true (hs.2 (.inl h))]; simp
    · obtain ⟨r, h1, h2⟩ := ih (i + 1) (by omega)
      refine ⟨r, Ev.step (fun k => slices_Index_int_int.l0.eq_2 _ _ _ _ _) ?_, ?_⟩
      · simp only [if_pos (show ((i : Int) < (l.length : Int)) by omega), if_pos (show 0 ≤ (i : Int) by omega), rd_get l i (by omega), if_neg h, wsucc i (by omega)]
        exact h1
      · have hs := mem_drop_step (l := l) (n := n) (show i < l.length by omega); rw [h2]; exact decide_eq_decide.2 (hs.trans ⟨fun h1 => h1.resolve_left h, .inr⟩).symm

theorem slices_Contains_int_int_ev (l : List Int) (n : Int) (hn : l.length < 4611686018427387904) : Ev (fun k => slices_Contains_int_int.f k l n) (decide (n ∈ l)) := by
  obtain ⟨r, h1, h2⟩ := slices_Index_int_int_l0 l n hn l.length 0 (by omega)
  simp only [slices_Contains_int_int.f]
  refine Ev.bind (a := r) h1 ?_
  rw [h2]; exact Ev.now _

theorem impl_chosen_l0 (a b : List Int) (f : Bool) (ha : a.length < 4398046511104) (hb : b.length < 4398046511104) : ∀ (d i : Nat) (acc : List Int), i + d = a.length → acc.length ≤ i →
    Ev (fun k => impl_chosen.l0 k b f acc a (a.length : Int) (i : Int)) (acc ++ (a.drop i).filter (pick3 b f)) := by
  intro d
  induction d with
  | zero =>
    intro i acc hi hacc
    refine Ev.step (fun k => impl_chosen.l0.eq_2 _ _ _ _ _ _ _) ?_
    simp only [if_neg (show ¬ ((i : Int) < (a.length : Int)) by omega)]
    rw [List.drop_of_length_le (by omega), List.filter_nil, List.append_nil]
    exact Ev.now _
  | succ d ih =>
    intro i acc hi hacc
    refine Ev.step (fun k => impl_chosen.l0.eq_2 _ _ _ _ _ _ _) ?_
    simp only [if_pos (show ((i : Int) < (a.length : Int)) by omega), if_pos (show 0 ≤ (i : Int) by omega), wsucc i (by omega), rd_get a i (by omega)]
    refine Ev.bind (slices_Contains_int_int_ev b a[i] (by omega)) ?_
    rw [drop_get a i (by omega)]
    by_cases h : pick3 b f a[i] = true
    · have h' : (decide (a[i] ∈ b) == f) = true := h
      simp only [h', if_true, if_pos (show acc.length < 17592186044416 by omega)]
      rw [List.filter_cons_of_pos h]
      have := ih (i + 1) (acc ++ [a[i]]) (by omega) (by simp; omega)
      simpa using this
    · have h' : (decide (a[i] ∈ b) == f) = false := by simpa [pick3] using h
      simp only [h', if_neg (show ¬ (false = true) by decide)]
      rw [List.filter_cons_of_neg (by simpa using h)]
      exact ih (i + 1) acc (by omega) (by omega)

theorem impl_chosen_ev (a b : List Int) (f : Bool) (ha : a.length < 4398046511104) (hb : b.length < 4398046511104) : Ev (fun k => impl_chosen.f k a b f) (setPick a b f) := by
  have := impl_chosen_l0 a b f ha hb a.length 0 [] (by omega) (by simp)
  rw [List.nil_append, List.drop_zero] at this
  exact this

theorem okFrom_end {l : List Int} {j : Nat} (hj : l.length ≤ j) : okFrom l j ↔ l.length ≤ 16 := ⟨fun h => h.2, fun h => ⟨fun i hi hji => by omega, h⟩⟩

theorem okFrom_step {l : List Int} {j : Nat} (hj : j < l.length) : okFrom l j ↔ ((0 ≤ l[j] ∧ l[j] ≤ 999999999) ∧ (0 < j → l[j - 1] < l[j])) ∧ okFrom l (j + 1) := by
  constructor
  · rintro ⟨h, h2⟩
    exact ⟨h j hj (Nat.le_refl _), fun i hi hji => h i hi (by omega), h2⟩
  · rintro ⟨h, h1, h2⟩
    refine ⟨fun i hi hji => ?_, h2⟩
    rcases Nat.lt_or_ge j i with hlt | hge
    · exact h1 i hi hlt
    · obtain rfl : i = j := by omega
      exact h

theorem ev_eq {α : Type} {g : Nat → Option α} {r : α} (h : ∀ k, g k = some r) : Ev g r := ⟨0, fun k _ => h k⟩

theorem ev_prop {g : Nat → Option Bool} {p q : Prop} [Decidable p] [Decidable q] (h : p ↔ q) (k : Ev g (decide p)) : Ev g (decide q) := by
  have : decide p = decide q := decide_eq_decide.2 h
  rw [← this]; exact k

theorem wpred (j : Nat) (h : j < 9223372036854775807) : wrap64 (((j + 1 : Nat) : Int) - 1) = (j : Int) := by rw [wrap_id (by omega) (by omega)]; omega

theorem impl_within_eq (a b c : Int) : impl_within.f a b c = some (decide (b ≤ a ∧ a ≤ c)) := by
  unfold impl_within.f
  by_cases h : a ≥ b
  · rw [if_pos h]; congr 1; exact decide_eq_decide.2 ⟨fun h2 => ⟨h, h2⟩, fun h2 => h2.2⟩
  · rw [if_neg h]; congr 1; symm; exact decide_eq_false (fun h2 => h h2.1)

open Classical in
theorem impl_SetOk_l0 (l : List Int) (hn : l.length < 4611686018427387904) : ∀ (d i : Nat), i + d = l.length → Ev (fun k => impl_SetOk.l0 k l l (l.length : Int) (i : Int)) (decide (okFrom l i)) := by
  intro d
  induction d with
  | zero =>
    intro i hi
    refine Ev.step (fun k => impl_SetOk.l0.eq_2 _ _ _ _ _) ?_
    simp only [if_neg (show ¬ ((i : Int) < (l.length : Int)) by omega)]
    refine ev_prop (okFrom_end (by omega)).symm ?_
    refine ev_eq fun _ => ?_
    congr 1; exact decide_eq_decide.2 (by omega)
  | succ d ih =>
    intro i hi
    have hs := okFrom_step (l := l) (j := i) (by omega)
    refine Ev.step (fun k => impl_SetOk.l0.eq_2 _ _ _ _ _) ?_
    simp only [if_pos (show ((i : Int) < (l.length : Int)) by omega), if_pos (show 0 ≤ (i : Int) by omega), wsucc i (by omega), rd_get l i (by omega), impl_within_eq, Option.bind_some, decide_eq_true_eq]
    by_cases h1 : 0 ≤ l[i] ∧ l[i] ≤ 999999999
    · simp only [if_pos h1]
      cases i with
      | zero =>
        simp only [if_neg (show ¬ (((0 : Nat) : Int) > 0) by omega)]
        exact ev_prop (hs.trans ⟨fun h => h.2, fun h => ⟨⟨h1, fun h0 => by omega⟩, h⟩⟩).symm (ih 1 (by omega))
      | succ j =>
        simp only [if_pos (show (((j + 1 : Nat) : Int) > 0) by omega), wpred j (by omega), if_pos (show 0 ≤ (j : Int) by omega), if_pos (show ((j : Int) < (l.length : Int)) by omega), rd_get l j (by omega)]
        by_cases h2 : l[j] ≥ l[j + 1]
        · simp only [if_pos h2]
          have : decide (okFrom l (j + 1)) = false := decide_eq_false (fun h => by have := (hs.1 h).1.2 (by omega); simp at this; omega)
          rw [this]; exact Ev.now _
        · simp only [if_neg h2]
          exact ev_prop (hs.trans ⟨fun h => h.2, fun h => ⟨⟨h1, fun _ => by simp; omega⟩, h⟩⟩).symm (ih (j + 2) (by omega))
    · simp only [if_neg h1]
      have : decide (okFrom l i) = false := decide_eq_false (fun h => h1 (hs.1 h).1.1)
      rw [this]; exact Ev.now _

theorem impl_SetOk_ev (l : List Int) (hn : l.length < 4611686018427387904) : Ev (fun k => impl_SetOk.f k l) (setOkB l) := impl_SetOk_l0 l hn l.length 0 (by omega)

theorem impl_setsOk_ev (a b : List Int) (ha : a.length < 4398046511104) (hb : b.length < 4398046511104) : Ev (fun k => impl_setsOk.f k a b) (setOkB a && setOkB b) := by
  simp only [impl_setsOk.f]
  refine Ev.bind (impl_SetOk_ev a (by omega)) ?_
  cases setOkB a with
  | false => exact Ev.now _
  | true => exact Ev.bind (impl_SetOk_ev b (by omega)) (Ev.now _)

theorem impl_SetAnd_ev (a b : List Int) (ha : a.length < 4398046511104) (hb : b.length < 4398046511104) : Ev (fun k => impl_SetAnd.f k a b) (setAL a b true) := by
  simp only [impl_SetAnd.f, setAL]
  refine Ev.bind (impl_setsOk_ev a b ha hb) ?_
  cases h : (setOkB a && setOkB b) with
  | false => exact Ev.now _
  | true => exact Ev.bind (impl_chosen_ev a b true ha hb) (Ev.now _)

theorem kept_some (d : Array Int) : ∀ i : Nat, ∃ j, j ≤ i ∧ Lib.keeps d j = true ∧ d[j]! = d[i]!
  | 0 => ⟨0, Nat.le_refl _, by simp [Lib.keeps], rfl⟩
  | i + 1 => by
    by_cases h : d[i + 1]! = d[i]!
    · obtain ⟨j, h1, h2, h3⟩ := kept_some d i
      exact ⟨j, by omega, h2, h3.trans h.symm⟩
    · exact ⟨i + 1, Nat.le_refl _, by simp only [Lib.keeps, Nat.add_sub_cancel]; exact decide_eq_true (.inr h), rfl⟩

theorem mem_compactUpTo (d : Array Int) (m : Nat) (z : Int) : z ∈ Lib.compactUpTo d m ↔ ∃ j, j < m ∧ Lib.keeps d j = true ∧ d[j]! = z := by
  unfold Lib.compactUpTo
  simp only [List.mem_map, List.mem_filter, List.mem_range]
  constructor
  · rintro ⟨j, ⟨h1, h2⟩, h3⟩; exact ⟨j, h1, h2, h3⟩
  · rintro ⟨j, h1, h2, h3⟩; exact ⟨j, ⟨h1, h2⟩, h3⟩

theorem mem_compact (l : List Int) (z : Int) : z ∈ Lib.compact l ↔ z ∈ l := by
  unfold Lib.compact
  rw [mem_compactUpTo]
  constructor
  · rintro ⟨j, h1, _, h3⟩
    have h4 : l.toArray[j]! = l[j] := by rw [getElem!_pos l.toArray j (by simpa using h1)]; simp
    rw [h4] at h3
    exact h3 ▸ List.getElem_mem h1
  · intro h
    obtain ⟨i, hi, rfl⟩ := List.mem_iff_getElem.1 h
    obtain ⟨j, h1, h2, h3⟩ := kept_some l.toArray i
    refine ⟨j, by omega, h2, h3.trans ?_⟩
    rw [getElem!_pos l.toArray i (by simpa using hi)]; simp

theorem rising_compact (l : List Int) (h : l.Pairwise (· ≤ ·)) : (Lib.compact l).Pairwise (· < ·) := by
  unfold Lib.compact Lib.compactUpTo
  rw [List.pairwise_map, List.pairwise_filter]
  refine List.Pairwise.imp_of_mem ?_ List.pairwise_lt_range
  intro i j hi hj hij _ hk
  have hi := List.mem_range.1 hi
  have hj := List.mem_range.1 hj
  have g : ∀ q (hq : q < l.length), l.toArray[q]! = l[q] := fun q hq => by rw [getElem!_pos l.toArray q (by simpa using hq)]; simp
  have hk := of_decide_eq_true hk
  rcases hk with hk | hk
  · omega
  · rw [g j hj, g (j - 1) (by omega)] at hk
    have h1 : l[i] ≤ l[j - 1] := by
      rcases Nat.lt_or_ge i (j - 1) with h2 | h2
      · exact List.pairwise_iff_getElem.1 h i (j - 1) hi (by omega) h2
      · have : i = j - 1 := by omega
        subst this; exact Int.le_refl _
    have h2 := List.pairwise_iff_getElem.1 h (j - 1) j (by omega) hj (by omega)
    rw [g i hi, g j hj]
    omega

/-- Two rising rows of the same elements are one. -/
theorem rising_ext : ∀ {a b : List Int}, a.Pairwise (· < ·) → b.Pairwise (· < ·) → (∀ x, x ∈ a ↔ x ∈ b) → a = b
  | [], [], _, _, _ => rfl
  | [], y :: ys, _, _, h => absurd ((h y).2 (List.mem_cons_self ..)) (by simp)
  | x :: xs, [], _, _, h => absurd ((h x).1 (List.mem_cons_self ..)) (by simp)
  | x :: xs, y :: ys, ha, hb, h => by
    have ha' := List.pairwise_cons.1 ha
    have hb' := List.pairwise_cons.1 hb
    have e : x = y := by
      have h1 := (h x).1 (List.mem_cons_self ..)
      have h2 := (h y).2 (List.mem_cons_self ..)
      rcases List.mem_cons.1 h1 with h1 | h1
      · exact h1
      · rcases List.mem_cons.1 h2 with h2 | h2
        · exact h2.symm
        · have := ha'.1 y h2; have := hb'.1 x h1; omega
    subst e
    congr 1
    refine rising_ext ha'.2 hb'.2 (fun z => ?_)
    have hz := h z
    rw [List.mem_cons, List.mem_cons] at hz
    constructor
    · intro hz1
      rcases hz.1 (.inr hz1) with h3 | h3
      · subst h3; have := ha'.1 z hz1; omega
      · exact h3
    · intro hz1
      rcases hz.2 (.inr hz1) with h3 | h3
      · subst h3; have := hb'.1 z hz1; omega
      · exact h3

def uniGo (x : Int) (f : List Int → List Int) : List Int → List Int
  | [] => x :: f []
  | y :: b => if y < x then y :: uniGo x f b else if y = x then x :: f b else x :: f (y :: b)

theorem mem_uniGo (x : Int) (f : List Int → List Int) (p : Int → Prop) (hf : ∀ b z, z ∈ f b ↔ p z ∨ z ∈ b) : ∀ b z, z ∈ uniGo x f b ↔ (z = x ∨ p z) ∨ z ∈ b
  | [], z => by simp [uniGo, hf]
  | y :: b, z => by
    have h1 := mem_uniGo x f p hf b z
    unfold uniGo
    split
    · rw [List.mem_cons, h1, List.mem_cons]; constructor
      · rintro (h | (h | h) | h)
        · exact .inr (.inl h)
        · exact .inl (.inl h)
        · exact .inl (.inr h)
        · exact .inr (.inr h)
      · rintro ((h | h) | h | h)
        · exact .inr (.inl (.inl h))
        · exact .inr (.inl (.inr h))
        · exact .inl h
        · exact .inr (.inr h)
    · split
      · next e => rw [List.mem_cons, hf, List.mem_cons, e]; constructor
                  · rintro (h | h | h)
                    · exact .inl (.inl h)
                    · exact .inl (.inr h)
                    · exact .inr (.inr h)
                  · rintro ((h | h) | h | h)
                    · exact .inl h
                    · exact .inr (.inl h)
                    · exact .inl h
                    · exact .inr (.inr h)
      · rw [List.mem_cons, hf]; constructor
        · rintro (h | h | h)
          · exact .inl (.inl h)
          · exact .inl (.inr h)
          · exact .inr h
        · rintro ((h | h) | h)
          · exact .inl h
          · exact .inr (.inl h)
          · exact .inr (.inr h)

def uni : List Int → List Int → List Int
  | [], b => b
  | x :: a, b => uniGo x (uni a) b

theorem mem_uni : ∀ (a b : List Int) (z : Int), z ∈ uni a b ↔ z ∈ a ∨ z ∈ b
  | [], b, z => by simp [uni]
  | x :: a, b, z => by
    have := mem_uniGo x (uni a) (fun z => z ∈ a) (fun b z => mem_uni a b z) b z
    simp only [uni, List.mem_cons]; exact this

theorem rising_uniGo (x : Int) (a : List Int) (hx : ∀ z ∈ a, x < z) (hf : ∀ b, b.Pairwise (· < ·) → (uni a b).Pairwise (· < ·)) : ∀ b, b.Pairwise (· < ·) → (uniGo x (uni a) b).Pairwise (· < ·)
  | [], _ => by
    simp only [uniGo]
    refine List.pairwise_cons.2 ⟨fun z hz => ?_, hf [] List.Pairwise.nil⟩
    rcases (mem_uni a [] z).1 hz with h | h
    · exact hx z h
    · simp at h
  | y :: b, hb => by
    have hb' := List.pairwise_cons.1 hb
    unfold uniGo
    split
    · next e =>
      refine List.pairwise_cons.2 ⟨fun z hz => ?_, rising_uniGo x a hx hf b hb'.2⟩
      rcases (mem_uniGo x (uni a) (fun z => z ∈ a) (fun b z => mem_uni a b z) b z).1 hz with (h | h) | h
      · omega
      · have := hx z h; omega
      · exact hb'.1 z h
    · split
      · next e =>
        refine List.pairwise_cons.2 ⟨fun z hz => ?_, hf b hb'.2⟩
        rcases (mem_uni a b z).1 hz with h | h
        · exact hx z h
        · have := hb'.1 z h; omega
      · next e =>
        refine List.pairwise_cons.2 ⟨fun z hz => ?_, hf _ hb⟩
        rcases (mem_uni a (y :: b) z).1 hz with h | h
        · exact hx z h
        · rcases List.mem_cons.1 h with h | h
          · omega
          · have := hb'.1 z h; omega

theorem rising_uni : ∀ (a b : List Int), a.Pairwise (· < ·) → b.Pairwise (· < ·) → (uni a b).Pairwise (· < ·)
  | [], b, _, hb => hb
  | x :: a, b, ha, hb => by
    have ha' := List.pairwise_cons.1 ha
    exact rising_uniGo x a ha'.1 (fun b hb => rising_uni a b ha'.2 hb) b hb

theorem sort_compact (a b : List Int) (ha : a.Pairwise (· < ·)) (hb : b.Pairwise (· < ·)) : Lib.compact ((a ++ b).mergeSort fun x y => decide (x ≤ y)) = uni a b := by
  refine rising_ext (rising_compact _ ?_) (rising_uni a b ha hb) (fun x => ?_)
  · have := List.pairwise_mergeSort (le := fun x y : Int => decide (x ≤ y)) (fun a b c h1 h2 => by simp at *; omega) (fun a b => by simp; omega) (a ++ b)
    exact this.imp (fun h => by simpa using h)
  · rw [mem_compact, List.mem_mergeSort, List.mem_append, mem_uni]

open Classical in
theorem setOkB_iff {l : List Int} : setOkB l = true ↔ setOk l := by unfold setOkB; exact decide_eq_true_iff

/-- A set: in range, rising, not too many. -/
theorem setOk_iff {l : List Int} : setOkB l = true ↔ (∀ x ∈ l, 0 ≤ x ∧ x ≤ 999999999) ∧ l.Pairwise (· < ·) ∧ l.length ≤ 16 := by
  rw [setOkB_iff]
  unfold setOk okFrom
  constructor
  · rintro ⟨h, h2⟩
    refine ⟨fun x hx => ?_, ?_, h2⟩
    · obtain ⟨i, hi, rfl⟩ := List.mem_iff_getElem.1 hx
      exact (h i hi (Nat.zero_le _)).1
    · have key : ∀ (d i : Nat) (hd : i + d < l.length), 0 < d → l[i]'(by omega) < l[i + d] := by
        intro d
        induction d with
        | zero => intro i hd h0; omega
        | succ d ih =>
          intro i hd _
          have h3 := (h (i + (d + 1)) hd (Nat.zero_le _)).2 (by omega)
          have e : i + (d + 1) - 1 = i + d := by omega
          simp only [e] at h3
          rcases Nat.eq_zero_or_pos d with h4 | h4
          · subst h4; exact h3
          · exact Int.lt_trans (ih i (by omega) h4) h3
      rw [List.pairwise_iff_getElem]
      intro i j hi hj hij
      have := key (j - i) i (by omega) (by omega)
      have e : i + (j - i) = j := by omega
      simp only [e] at this
      exact this
  · rintro ⟨h1, h2, h3⟩
    refine ⟨fun i hi _ => ⟨h1 _ (List.getElem_mem _), fun h0 => ?_⟩, h3⟩
    exact List.pairwise_iff_getElem.1 h2 (i - 1) i (by omega) hi (by omega)

noncomputable def orAL (a b : List Int) : List Int := if (setOkB a && setOkB b) = true then uni a b else []

theorem uniGo_length (x : Int) (f : List Int → List Int) (n : Nat) (hf : ∀ b, (f b).length ≤ n + b.length) : ∀ b, (uniGo x f b).length ≤ n + 1 + b.length
  | [] => by have := hf []; simp only [uniGo, List.length_cons, List.length_nil] at *; omega
  | y :: b => by
    have h1 := uniGo_length x f n hf b
    have h2 := hf b
    have h3 := hf (y :: b)
    simp only [uniGo, List.length_cons] at *
    split
    · simp only [List.length_cons]; omega
    · split <;> simp only [List.length_cons] <;> omega

theorem uni_length : ∀ a b, (uni a b).length ≤ a.length + b.length
  | [], b => by simp [uni]
  | x :: a, b => by
    have := uniGo_length x (uni a) a.length (uni_length a) b
    simp only [uni, List.length_cons]; omega

theorem impl_SetOr_ev (a b : List Int) (ha : a.length < 4398046511104) (hb : b.length < 4398046511104) : Ev (fun k => impl_SetOr.f k a b) (orAL a b) := by
  simp only [impl_SetOr.f, orAL]
  refine Ev.bind (impl_setsOk_ev a b ha hb) ?_
  cases h : (setOkB a && setOkB b) with
  | false => exact Ev.now _
  | true =>
    rw [Bool.and_eq_true] at h
    have h1 := sort_compact a b (setOk_iff.1 h.1).2.1 (setOk_iff.1 h.2).2.1
    have h2 := uni_length a b
    simp only [if_true, Option.bind_some, List.nil_append, List.length_nil, Nat.zero_add]
    simp only [if_pos (show a.length < 17592186044416 by omega), if_pos (show a.length + b.length < 17592186044416 by omega), slices_Sort_int_int.f, slices_Compact_int_int.f, List.length_append, if_pos (show a.length + b.length < 4611686018427387904 by omega), Option.bind_some, h1, if_pos (show (uni a b).length < 17592186044416 by omega)]
    exact Ev.now _

theorem filter_none {a : List Int} : a.filter (fun z => decide (z ∈ ([] : List Int))) = [] := List.filter_eq_nil_iff.2 (fun z _ => by simp)

theorem filter_skip {a b : List Int} {y : Int} (h : ∀ z ∈ a, y < z) : a.filter (fun z => decide (z ∈ y :: b)) = a.filter (fun z => decide (z ∈ b)) := by
  refine List.filter_congr (fun z hz => ?_)
  have := h z hz
  exact decide_eq_decide.2 (by rw [List.mem_cons]; constructor
                               · rintro (h1 | h1)
                                 · omega
                                 · exact h1
                               · exact .inr)

theorem uni_count : ∀ (a b : List Int), a.Pairwise (· < ·) → b.Pairwise (· < ·) → (uni a b).length + (a.filter (fun z => decide (z ∈ b))).length = a.length + b.length
  | [], b, _, _ => by simp [uni]
  | x :: a, b, ha, hb => by
    have ha' := List.pairwise_cons.1 ha
    have hf : ∀ b : List Int, b.Pairwise (· < ·) → (uni a b).length + (a.filter (fun z => decide (z ∈ b))).length = a.length + b.length := fun b hb => uni_count a b ha'.2 hb
    have go : ∀ b : List Int, b.Pairwise (· < ·) → (uniGo x (uni a) b).length + ((x :: a).filter (fun z => decide (z ∈ b))).length = (x :: a).length + b.length := by
      intro b
      induction b with
      | nil =>
        intro _
        have h1 := hf [] List.Pairwise.nil
        rw [filter_none] at h1 ⊢
        simp only [uniGo, List.length_cons, List.length_nil] at *
        omega
      | cons y b ih =>
        intro hb
        have hb' := List.pairwise_cons.1 hb
        have hi := ih hb'.2
        unfold uniGo
        split
        · next e =>
          rw [filter_skip (a := x :: a) (y := y) (fun z hz => by
            rcases List.mem_cons.1 hz with h | h
            · omega
            · have := ha'.1 z h; omega)]
          simp only [List.length_cons] at *
          omega
        · split
          · next e =>
            have h1 := hf b hb'.2
            rw [List.filter_cons_of_pos (by simp [e]), filter_skip (a := a) (y := y) (fun z hz => by have := ha'.1 z hz; omega)]
            simp only [List.length_cons] at *
            omega
          · next e1 e2 =>
            have h1 := hf (y :: b) hb
            rw [List.filter_cons_of_neg (by
              simp only [List.mem_cons, decide_eq_true_eq]
              rintro (h | h)
              · omega
              · have := hb'.1 x h; omega)]
            simp only [List.length_cons] at *
            omega
    exact go b hb

theorem orAL_def {a b : List Int} (oa : setOkB a = true) (ob : setOkB b = true) : orAL a b = uni a b := by
  unfold orAL; rw [oa, ob]; rfl

theorem setAL_def {a b : List Int} (oa : setOkB a = true) (ob : setOkB b = true) (f : Bool) : setAL a b f = setPick a b f := by
  unfold setAL; rw [oa, ob]; rfl

theorem orAL_count {a b : List Int} (oa : setOkB a = true) (ob : setOkB b = true) : (orAL a b).length + (setAL a b true).length = a.length + b.length := by
  have h := uni_count a b (setOk_iff.1 oa).2.1 (setOk_iff.1 ob).2.1
  rw [orAL_def oa ob, setAL_def oa ob]
  have e : setPick a b true = a.filter (fun z => decide (z ∈ b)) := by
    unfold setPick pick3
    exact List.filter_congr (fun z _ => by simp)
  rw [e]; exact h

theorem drop_eq_step {α : Type} {a b : List α} {j : Nat} (ha : j < a.length) (hb : j < b.length) : a.drop j = b.drop j ↔ a[j] = b[j] ∧ a.drop (j + 1) = b.drop (j + 1) := by
  rw [List.drop_eq_getElem_cons ha, List.drop_eq_getElem_cons hb, List.cons.injEq]

theorem ev_false {g : Nat → Option Bool} {p : Prop} [Decidable p] (h : ¬ p) (k : Ev g false) : Ev g (decide p) := by
  rw [decide_eq_false h]; exact k

theorem sdInts_l0 (a b : List Int) (hn : a.length < 4611686018427387904) (hl : a.length = b.length) : ∀ (d i : Nat), i + d = a.length →
    Ev (fun k => laws_sdInts.l0 k a b (i : Int)) (decide (a.drop i = b.drop i)) := by
  intro d
  induction d with
  | zero =>
    intro i hi
    refine Ev.step (fun k => laws_sdInts.l0.eq_2 _ _ _ _) ?_
    simp only [if_neg (show ¬ ((i : Int) < (a.length : Int)) by omega)]
    rw [List.drop_of_length_le (by omega), List.drop_of_length_le (by omega)]
    exact Ev.now _
  | succ d ih =>
    intro i hi
    refine Ev.step (fun k => laws_sdInts.l0.eq_2 _ _ _ _) ?_
    simp only [if_pos (show ((i : Int) < (a.length : Int)) by omega), if_pos (show 0 ≤ (i : Int) by omega), if_pos (show ((i : Int) < (b.length : Int)) by omega), wsucc i (by omega), rd_get a i (by omega), rd_get b i (by omega)]
    have hs := drop_eq_step (a := a) (b := b) (show i < a.length by omega) (show i < b.length by omega)
    by_cases h : a[i] = b[i]
    · simp only [if_pos h]
      exact ev_prop (hs.trans ⟨fun h1 => h1.2, fun h1 => ⟨h, h1⟩⟩).symm (ih (i + 1) (by omega))
    · simp only [if_neg h]
      exact ev_false (fun h1 => h (hs.1 h1).1) (Ev.now _)

theorem sdInts_ev (a b : List Int) (hn : a.length < 4611686018427387904) : Ev (fun k => laws_sdInts.f k a b) (decide (a = b)) := by
  simp only [laws_sdInts.f]
  by_cases hl : a.length = b.length
  · simp only [if_pos (show (a.length : Int) = (b.length : Int) by omega)]
    exact sdInts_l0 a b hn hl a.length 0 (by omega)
  · simp only [if_neg (show ¬ (a.length : Int) = (b.length : Int) by omega)]
    have : decide (a = b) = false := by simp; intro h; exact hl (by rw [h])
    rw [this]; exact Ev.now _

theorem sdInts_true {a b : List Int} (h : a = b) (hn : a.length < 4611686018427387904) : Ev (fun k => laws_sdInts.f k a b) true := by
  have := sdInts_ev a b hn
  rwa [decide_eq_true h] at this

theorem mem_orAL {a b : List Int} (oa : setOkB a = true) (ob : setOkB b = true) {z : Int} : z ∈ orAL a b ↔ z ∈ a ∨ z ∈ b := by
  rw [orAL_def oa ob, mem_uni]

theorem orAL_rising {a b : List Int} (oa : setOkB a = true) (ob : setOkB b = true) : (orAL a b).Pairwise (· < ·) := by
  rw [orAL_def oa ob]; exact rising_uni a b (setOk_iff.1 oa).2.1 (setOk_iff.1 ob).2.1

theorem orAL_comm {a b : List Int} (oa : setOkB a = true) (ob : setOkB b = true) : orAL b a = orAL a b :=
  rising_ext (orAL_rising ob oa) (orAL_rising oa ob) (fun x => by rw [mem_orAL oa ob, mem_orAL ob oa]; exact Or.comm)

theorem orAL_self {a : List Int} (oa : setOkB a = true) : orAL a a = a :=
  rising_ext (orAL_rising oa oa) (setOk_iff.1 oa).2.1 (fun x => by rw [mem_orAL oa oa]; simp)

theorem orAL_length (a b : List Int) : (orAL a b).length ≤ a.length + b.length := by unfold orAL; split; exact uni_length _ _; simp

theorem FnSetOr_end (a b : List Int) (ha : a.length ≤ 61) (hb : b.length ≤ 61) (oa : setOkB a = true) (ob : setOkB b = true) :
    Ev (fun k => (impl_SetOr.f k b a).bind fun t289 => ((laws_sdInts.f k t289 (orAL a b)).bind fun t292 => (if t292 = true then ((impl_SetAnd.f k a b).bind fun t293 => (if (wrap64 (((orAL a b).length : Int) + (t293.length : Int))) = (wrap64 ((a.length : Int) + (b.length : Int))) then ((impl_SetOr.f k a a).bind fun t296 => ((laws_sdInts.f k t296 a).bind fun t299 => (some t299))) else (some false))) else (some false)))) true := by
  have h1 := orAL_length b a
  have h2 := orAL_length a b
  have h3 := orAL_count oa ob
  have h4 := orAL_length a a
  refine Ev.bind (impl_SetOr_ev b a (by omega) (by omega)) ?_
  refine Ev.bind (sdInts_true (orAL_comm oa ob) (by omega)) ?_
  simp only [if_true]
  refine Ev.bind (impl_SetAnd_ev a b (by omega) (by omega)) ?_
  simp only [show ((orAL a b).length : Int) + ((setAL a b true).length : Int) = (a.length : Int) + (b.length : Int) by omega, if_true]
  refine Ev.bind (impl_SetOr_ev a a (by omega) (by omega)) ?_
  exact Ev.bind (sdInts_true (orAL_self oa) (by omega)) (Ev.now _)

theorem impl_SetHas_ev (l : List Int) (n : Int) (hn : l.length < 4611686018427387904) : Ev (fun k => impl_SetHas.f k l n) (setOkB l && decide (n ∈ l)) := by
  simp only [impl_SetHas.f]
  refine Ev.bind (impl_SetOk_ev l hn) ?_
  cases setOkB l with
  | false => exact Ev.now _
  | true => exact Ev.bind (slices_Contains_int_int_ev l n hn) (Ev.now _)

theorem FnSetOr_l0 (a b : List Int) (ha : a.length ≤ 61) (hb : b.length ≤ 61) (oa : setOkB a = true) (ob : setOkB b = true) : ∀ (d i : Nat), i + d = (orAL a b).length →
    Ev (fun k => laws_FnSetOr.l0 k a b (orAL a b) (i : Int)) true := by
  have hlen := orAL_length a b
  intro d
  induction d with
  | zero =>
    intro i hi
    refine Ev.step (fun k => laws_FnSetOr.l0.eq_2 _ _ _ _ _) ?_
    simp only [if_neg (show ¬ ((i : Int) < ((orAL a b).length : Int)) by omega)]
    exact FnSetOr_end a b ha hb oa ob
  | succ d ih =>
    intro i hi
    have hr := orAL_rising oa ob
    have hm : (orAL a b)[i] ∈ orAL a b := List.getElem_mem _
    have hm2 := (mem_orAL oa ob).1 hm
    have hn := ih (i + 1) (by omega)
    refine Ev.step (fun k => laws_FnSetOr.l0.eq_2 _ _ _ _ _) ?_
    simp only [if_pos (show ((i : Int) < ((orAL a b).length : Int)) by omega), if_pos (show 0 ≤ (i : Int) by omega), wsucc i (by omega), rd_get _ i (show i < (orAL a b).length by omega)]
    have tail : Ev (fun k => if (i : Int) > 0 then (if 0 ≤ (wrap64 ((i : Int) - 1)) then (if (wrap64 ((i : Int) - 1)) < ((orAL a b).length : Int) then (if (rd (orAL a b) (wrap64 ((i : Int) - 1))) ≥ (orAL a b)[i] then (some false) else (laws_FnSetOr.l0 k a b (orAL a b) ((i + 1 : Nat) : Int))) else (none)) else (none)) else (laws_FnSetOr.l0 k a b (orAL a b) ((i + 1 : Nat) : Int))) true := by
      by_cases h0 : (i : Int) > 0
      · have h5 := List.pairwise_iff_getElem.1 hr (i - 1) i (by omega) (by omega) (by omega)
        have he : wrap64 ((i : Int) - 1) = ((i - 1 : Nat) : Int) := by rw [wrap_id (by omega) (by omega)]; omega
        simp only [if_pos h0, he, if_pos (show 0 ≤ ((i - 1 : Nat) : Int) by omega), if_pos (show ((i - 1 : Nat) : Int) < ((orAL a b).length : Int) by omega), rd_get _ (i - 1) (show i - 1 < (orAL a b).length by omega), if_neg (show ¬ ((orAL a b)[i - 1] ≥ (orAL a b)[i]) by omega)]
        exact hn
      · simp only [if_neg h0]; exact hn
    refine Ev.bind (impl_SetHas_ev a _ (by omega)) ?_
    by_cases h1 : (orAL a b)[i] ∈ a
    · simp only [oa, h1, decide_true, Bool.and_true, if_true]
      exact tail
    · have h2 : (orAL a b)[i] ∈ b := hm2.resolve_left h1
      simp only [oa, h1, decide_false, Bool.and_false, if_neg (show ¬ (false = true) by decide)]
      refine Ev.bind (impl_SetHas_ev b _ (by omega)) ?_
      simp only [ob, h2, decide_true, Bool.and_true, if_true]
      exact tail

theorem spec_l1In_eq (a b c : Int) : spec_l1In.f a b c = some (decide (b ≤ a ∧ a ≤ c)) := by
  unfold spec_l1In.f
  by_cases h : a ≥ b
  · rw [if_pos h]; congr 1; exact decide_eq_decide.2 ⟨fun h2 => ⟨h, h2⟩, fun h2 => h2.2⟩
  · rw [if_neg h]; congr 1; symm; exact decide_eq_false (fun h2 => h h2.1)

open Classical in
theorem spec_SetOk_l0 (l : List Int) (hn : l.length < 4611686018427387904) : ∀ (d i : Nat), i + d = l.length → Ev (fun k => spec_SetOk.l0 k l (i : Int)) (decide (okFrom l i)) := by
  intro d
  induction d with
  | zero =>
    intro i hi
    refine Ev.step (fun k => spec_SetOk.l0.eq_2 _ _ _) ?_
    simp only [if_neg (show ¬ ((i : Int) < (l.length : Int)) by omega)]
    refine ev_prop (okFrom_end (by omega)).symm ?_
    refine ev_eq fun _ => ?_
    congr 1; exact decide_eq_decide.2 (by omega)
  | succ d ih =>
    intro i hi
    have hs := okFrom_step (l := l) (j := i) (by omega)
    refine Ev.step (fun k => spec_SetOk.l0.eq_2 _ _ _) ?_
    simp only [if_pos (show ((i : Int) < (l.length : Int)) by omega), if_pos (show 0 ≤ (i : Int) by omega), wsucc i (by omega), rd_get l i (by omega), spec_l1In_eq, Option.bind_some, decide_eq_true_eq]
    by_cases h1 : 0 ≤ l[i] ∧ l[i] ≤ 999999999
    · simp only [if_pos h1]
      cases i with
      | zero =>
        simp only [if_neg (show ¬ (((0 : Nat) : Int) > 0) by omega)]
        exact ev_prop (hs.trans ⟨fun h => h.2, fun h => ⟨⟨h1, fun h0 => by omega⟩, h⟩⟩).symm (ih 1 (by omega))
      | succ j =>
        simp only [if_pos (show (((j + 1 : Nat) : Int) > 0) by omega), wpred j (by omega), if_pos (show 0 ≤ (j : Int) by omega), if_pos (show ((j : Int) < (l.length : Int)) by omega), rd_get l j (by omega)]
        by_cases h2 : l[j] ≥ l[j + 1]
        · simp only [if_pos h2]
          have : decide (okFrom l (j + 1)) = false := decide_eq_false (fun h => by have := (hs.1 h).1.2 (by omega); simp at this; omega)
          rw [this]; exact Ev.now _
        · simp only [if_neg h2]
          exact ev_prop (hs.trans ⟨fun h => h.2, fun h => ⟨⟨h1, fun _ => by simp; omega⟩, h⟩⟩).symm (ih (j + 2) (by omega))
    · simp only [if_neg h1]
      have : decide (okFrom l i) = false := decide_eq_false (fun h => h1 (hs.1 h).1.1)
      rw [this]; exact Ev.now _

theorem spec_SetOk_ev (l : List Int) (hn : l.length < 4611686018427387904) : Ev (fun k => spec_SetOk.f k l) (setOkB l) := spec_SetOk_l0 l hn l.length 0 (by omega)

theorem l3Or_l0 (a b : List Int) (acc : List Int) (i j : Nat) (hj : j ≤ b.length) (hacc : acc.length + (b.length - j) < 17592186044416)
    (h : i < a.length → Ev (fun k => spec_l3Or.l1 k a b acc (j : Int) (i : Int)) (acc ++ uni (a.drop i) (b.drop j))) :
    Ev (fun k => spec_l3Or.l0 k a b acc (j : Int) (i : Int)) (acc ++ uni (a.drop i) (b.drop j)) := by
  refine Ev.step (fun k => spec_l3Or.l0.eq_2 _ _ _ _ _ _) ?_
  by_cases hlt : i < a.length
  · simp only [if_pos (show ((i : Int) < (a.length : Int)) by omega)]
    exact h hlt
  · simp only [if_neg (show ¬ ((i : Int) < (a.length : Int)) by omega), if_pos (show 0 ≤ (j : Int) by omega), if_pos (show (j : Int) ≤ (b.length : Int) by omega), Int.toNat_natCast, List.length_drop, if_pos hacc]
    rw [List.drop_eq_nil_of_le (show a.length ≤ i by omega)]
    exact Ev.now _

theorem l3Or_l1 (a b : List Int) (ha : a.length < 4398046511104) (hb : b.length < 4398046511104) : ∀ (n i j : Nat) (acc : List Int), (a.length - i) + (b.length - j) ≤ n → i < a.length → j ≤ b.length → acc.length + n ≤ 8796093022208 →
    Ev (fun k => spec_l3Or.l1 k a b acc (j : Int) (i : Int)) (acc ++ uni (a.drop i) (b.drop j)) := by
  intro n
  induction n with
  | zero => intro i j acc hn hi; omega
  | succ n ih =>
    intro i j acc hn hi hj hacc
    have ed : a.drop i = a[i] :: a.drop (i + 1) := List.drop_eq_getElem_cons hi
    refine Ev.step (fun k => spec_l3Or.l1.eq_2 _ _ _ _ _ _) ?_
    by_cases hlt : j < b.length
    · have eb : b.drop j = b[j] :: b.drop (j + 1) := List.drop_eq_getElem_cons hlt
      simp only [if_pos (show ((j : Int) < (b.length : Int)) by omega), if_pos (show 0 ≤ (j : Int) by omega), if_pos (show 0 ≤ (i : Int) by omega), if_pos (show ((i : Int) < (a.length : Int)) by omega), rd_get b j hlt, rd_get a i hi, if_pos (show acc.length < 17592186044416 by omega), wsucc j (by omega), wsucc i (by omega)]
      by_cases h1 : b[j] < a[i]
      · simp only [if_pos h1]
        have := ih i (j + 1) (acc ++ [b[j]]) (by omega) hi (by omega) (by simp; omega)
        rw [ed, eb, uni, uniGo, if_pos h1]
        rw [ed, uni, List.append_assoc] at this
        exact this
      · simp only [if_neg h1]
        by_cases h2 : b[j] = a[i]
        · simp only [if_pos h2]
          have := l3Or_l0 a b (acc ++ [a[i]]) (i + 1) (j + 1) (by omega) (by simp; omega) (fun h => ih (i + 1) (j + 1) (acc ++ [a[i]]) (by omega) h (by omega) (by simp; omega))
          rw [ed, eb, uni, uniGo, if_neg h1, if_pos h2]
          rw [List.append_assoc] at this
          exact this
        · simp only [if_neg h2]
          have := l3Or_l0 a b (acc ++ [a[i]]) (i + 1) j (by omega) (by simp; omega) (fun h => ih (i + 1) j (acc ++ [a[i]]) (by omega) h (by omega) (by simp; omega))
          rw [ed, eb, uni, uniGo, if_neg h1, if_neg h2, ← eb]
          rw [List.append_assoc] at this
          exact this
    · have eb : b.drop j = [] := List.drop_eq_nil_of_le (by omega)
      simp only [if_neg (show ¬ ((j : Int) < (b.length : Int)) by omega), if_pos (show 0 ≤ (i : Int) by omega), if_pos (show ((i : Int) < (a.length : Int)) by omega), rd_get a i hi, if_pos (show acc.length < 17592186044416 by omega), wsucc i (by omega)]
      have := l3Or_l0 a b (acc ++ [a[i]]) (i + 1) j (by omega) (by simp; omega) (fun h => ih (i + 1) j (acc ++ [a[i]]) (by omega) h (by omega) (by simp; omega))
      rw [ed, eb, uni, uniGo]
      rw [List.append_assoc, eb] at this
      exact this

theorem spec_l3Or_ev (a b : List Int) (ha : a.length < 4398046511104) (hb : b.length < 4398046511104) : Ev (fun k => spec_l3Or.f k a b) (uni a b) := by
  simp only [spec_l3Or.f]
  exact l3Or_l0 a b [] 0 0 (Nat.zero_le _) (by simp; omega) (fun h => l3Or_l1 a b ha hb _ 0 0 [] (Nat.le_refl _) h (Nat.zero_le _) (by simp; omega))

theorem spec_SetOr_ev (a b : List Int) (ha : a.length < 4398046511104) (hb : b.length < 4398046511104) : Ev (fun k => spec_SetOr.f k a b) (orAL a b) := by
  simp only [spec_SetOr.f, orAL]
  refine Ev.bind (spec_SetOk_ev a (by omega)) ?_
  cases setOkB a with
  | false => exact Ev.now _
  | true =>
    simp only [if_true]
    refine Ev.bind (spec_SetOk_ev b (by omega)) ?_
    cases setOkB b with
    | false => exact Ev.now _
    | true => exact Ev.bind (spec_l3Or_ev a b ha hb) (Ev.now _)

/-- What a code reads as: at most 2000 bytes. -/
def CodeOk (s : List Int) : Prop := s.length ≤ 2000 ∧ ∀ c ∈ s, 0 ≤ c ∧ c ≤ 255

theorem l1Open_eq (s : List Int) (hb : ∀ c ∈ s, 0 ≤ c ∧ c ≤ 255) : ∃ s', spec_l1Open.f s = some (s', 0) ∧ CodeOk s' := by
  unfold spec_l1Open.f
  by_cases h : (s.length : Int) > 2000
  · rw [if_pos h, if_pos (by omega)]
    exact ⟨_, rfl, by rw [List.length_take]; omega, fun c hc => hb c (List.mem_of_mem_take hc)⟩
  · rw [if_neg h]
    exact ⟨_, rfl, by omega, hb⟩

theorem CodeOk.byte {s : List Int} (h : CodeOk s) (i : Int) : 0 ≤ rd s i ∧ rd s i ≤ 255 := by
  unfold rd
  rw [List.getD_eq_getElem?_getD]
  rcases Nat.lt_or_ge i.toNat s.length with hi | hi
  · rw [List.getElem?_eq_getElem hi]; exact h.2 _ (List.getElem_mem _)
  · rw [List.getElem?_eq_none hi]; simp

theorem tdiv_nn {a b : Int} (ha : 0 ≤ a) (hb : 0 < b) : 0 ≤ Int.tdiv a b ∧ Int.tdiv a b ≤ a := by
  rw [Int.tdiv_eq_ediv_of_nonneg ha]
  exact ⟨Int.ediv_nonneg ha (by omega), Int.ediv_le_self _ ha⟩

theorem tmod_nn {a b : Int} (ha : 0 ≤ a) (hb : 0 < b) : 0 ≤ Int.tmod a b ∧ Int.tmod a b < b := by
  rw [Int.tmod_eq_emod_of_nonneg ha]
  exact ⟨Int.emod_nonneg _ (by omega), Int.emod_lt_of_pos _ hb⟩

theorem xor_i64 (a b : Nat) (ha : a < 2 ^ 62) (hb : b < 2 ^ 62) : ∃ m : Nat, Go.bits .xor .i64 (a : Int) (b : Int) = (m : Int) ∧ m < 2 ^ 62 := by
  have ha' : a % 2 ^ IntKind.i64.bits = a := Nat.mod_eq_of_lt (Nat.lt_of_lt_of_le ha (by decide))
  have hb' : b % 2 ^ IntKind.i64.bits = b := Nat.mod_eq_of_lt (Nat.lt_of_lt_of_le hb (by decide))
  have hx := Nat.xor_lt_two_pow ha hb
  refine ⟨a ^^^ b, ?_, hx⟩
  simp only [Go.bits, BitVec.ofInt_natCast, BitVec.toNat_xor, BitVec.toNat_ofNat, ha', hb']
  rw [IntKind.wrap_i64]
  have : ((a ^^^ b : Nat) : Int) < 4611686018427387904 := by have := hx; omega
  omega

theorem pick_ev (s : List Int) (hs : CodeOk s) (p n : Int) (hp : 0 ≤ p) (hp1 : p ≤ 1000000) (hn : 1 ≤ n) (hn1 : n ≤ 1000000) :
    ∃ r, Ev (fun k => spec_l1Rd_pick.f k s p n) (r, p + 1) ∧ 0 ≤ r ∧ r < n := by
  simp only [spec_l1Rd_pick.f, if_neg (show ¬ n < 1 by omega), wrap_id (x := p + 1) (by omega) (by omega)]
  by_cases h0 : s.length = 0
  · refine ⟨0, Ev.step (fun k => spec_l1Rd_pick.j0.eq_2 _ _ _ _ _) ?_, by omega, by omega⟩
    simp only [show ((s.length : Int) == 0) = true by simp [h0], if_true]
    exact Ev.now _
  · have hl : 0 < (s.length : Int) := by omega
    have hb : ((s.length : Int) == 0) = false := by simp; intro h; exact h0 (by rw [h]; rfl)
    have e1 : wrap64 (p + 1 - 1) = p := by rw [wrap_id (by omega) (by omega)]; omega
    by_cases hlt : p < (s.length : Int)
    · have hc := hs.byte p
      refine ⟨Int.tmod (rd s p) n, Ev.step (fun k => spec_l1Rd_pick.j0.eq_2 _ _ _ _ _) ?_, (tmod_nn hc.1 (by omega)).1, (tmod_nn hc.1 (by omega)).2⟩
      simp only [hb, if_neg (show ¬ (false = true) by decide), e1, if_pos hlt, if_pos hp, if_neg (show ¬ n = 0 by omega), wrap_id (x := rd s p) (by omega) (by omega)]
      exact Ev.now _
    · have m1 := tmod_nn hp hl
      have e2 : wrap64 (wrap64 (p * 7) + 3) = p * 7 + 3 := by rw [wrap_id (x := p * 7) (by omega) (by omega), wrap_id (by omega) (by omega)]
      have m2 := tmod_nn (show 0 ≤ p * 7 + 3 by omega) hl
      have d1 := tdiv_nn hp hl
      obtain ⟨A, hA⟩ : ∃ A, rd s (Int.tmod p (s.length : Int)) = A := ⟨_, rfl⟩
      obtain ⟨B, hB⟩ : ∃ B, rd s (Int.tmod (p * 7 + 3) (s.length : Int)) = B := ⟨_, rfl⟩
      obtain ⟨C, hC⟩ : ∃ C, Int.tdiv p (s.length : Int) = C := ⟨_, rfl⟩
      have a1 := hs.byte (Int.tmod p (s.length : Int)); rw [hA] at a1
      have b1 := hs.byte (Int.tmod (p * 7 + 3) (s.length : Int)); rw [hB] at b1
      rw [hC] at d1
      have v1 : wrap64 (wrap64 (wrap64 (wrap64 (wrap64 A * 131) + wrap64 (wrap64 B * 1117)) + wrap64 (p * 29)) + wrap64 (wrap64 C * 53)) = A * 131 + B * 1117 + p * 29 + C * 53 := by
        rw [wrap_id (x := A) (by omega) (by omega), wrap_id (x := B) (by omega) (by omega), wrap_id (x := C) (by omega) (by omega), wrap_id (x := A * 131) (by omega) (by omega), wrap_id (x := B * 1117) (by omega) (by omega), wrap_id (x := p * 29) (by omega) (by omega), wrap_id (x := C * 53) (by omega) (by omega), wrap_id (x := A * 131 + B * 1117) (by omega) (by omega), wrap_id (x := A * 131 + B * 1117 + p * 29) (by omega) (by omega), wrap_id (by omega) (by omega)]
      obtain ⟨V, hV⟩ : ∃ V : Nat, A * 131 + B * 1117 + p * 29 + C * 53 = (V : Int) := ⟨(A * 131 + B * 1117 + p * 29 + C * 53).toNat, by omega⟩
      have hVb : V < 2 ^ 62 := by have : (2 : Nat) ^ 62 = 4611686018427387904 := by decide
                                  omega
      have hd := tdiv_nn (show 0 ≤ (V : Int) by omega) (show (0 : Int) < 64 by omega)
      obtain ⟨Q, hQ⟩ : ∃ Q : Nat, Int.tdiv (V : Int) 64 = (Q : Int) := ⟨(Int.tdiv (V : Int) 64).toNat, by omega⟩
      have hQb : Q < 2 ^ 62 := by omega
      obtain ⟨m, hm, hmb⟩ := xor_i64 V Q hVb hQb
      have e3 : wrap64 (Int.tdiv (V : Int) 64) = (Q : Int) := by
        have : (2 : Nat) ^ 62 = 4611686018427387904 := by decide
        rw [hQ, wrap_id (by omega) (by omega)]
      have mm := tmod_nn (show 0 ≤ (m : Int) by omega) (show 0 < n by omega)
      refine ⟨Int.tmod (m : Int) n, Ev.step (fun k => spec_l1Rd_pick.j0.eq_2 _ _ _ _ _) ?_, mm.1, mm.2⟩
      simp only [hb, if_neg (show ¬ (false = true) by decide), e1, if_neg hlt, if_neg (show ¬ (s.length : Int) = 0 by omega), if_pos m1.1, if_pos m1.2, e2, if_pos m2.1, if_pos m2.2, if_neg (show ¬ n = 0 by omega), hA, hB, hC, v1, hV, e3, hm]
      exact Ev.now _

theorem l11Set_l1 (s : List Int) (hs : CodeOk s) : ∀ (d i : Nat) (p : Int) (acc : List Int), i + d = 17 → 0 ≤ p → p + d ≤ 900000 → acc.length + d ≤ 100 →
    ∃ r q, Ev (fun k => spec_l11Set.l1 k acc (i : Int) s p) (r, q) ∧ p ≤ q ∧ q ≤ p + d + 1 ∧ r.length ≤ acc.length + d := by
  intro d
  induction d with
  | zero =>
    intro i p acc hi hp hb ha
    obtain ⟨x, hx, h0, h1⟩ := pick_ev s hs p 2 hp (by omega) (by omega) (by omega)
    refine ⟨acc, p + 1, Ev.step (fun k => spec_l11Set.l1.eq_2 _ _ _ _ _) ?_, by omega, by omega, by omega⟩
    refine Ev.bind hx ?_
    simp only [wrap_id (x := 16 + x) (by omega) (by omega), if_neg (show ¬ ((i : Int) < 16 + x) by omega)]
    exact Ev.now _
  | succ d ih =>
    intro i p acc hi hp hb ha
    obtain ⟨x, hx, h0, h1⟩ := pick_ev s hs p 2 hp (by omega) (by omega) (by omega)
    by_cases hlt : (i : Int) < 16 + x
    · obtain ⟨r, q, hr, q0, q1, q2⟩ := ih (i + 1) (p + 1) (acc ++ [(i : Int)]) (by omega) (by omega) (by omega) (by simp; omega)
      refine ⟨r, q, Ev.step (fun k => spec_l11Set.l1.eq_2 _ _ _ _ _) ?_, by omega, by omega, by simp at q2; omega⟩
      refine Ev.bind hx ?_
      simp only [wrap_id (x := 16 + x) (by omega) (by omega), if_pos hlt, if_pos (show acc.length < 17592186044416 by omega), wsucc i (by omega)]
      exact hr
    · refine ⟨acc, p + 1, Ev.step (fun k => spec_l11Set.l1.eq_2 _ _ _ _ _) ?_, by omega, by omega, by omega⟩
      refine Ev.bind hx ?_
      simp only [wrap_id (x := 16 + x) (by omega) (by omega), if_neg hlt]
      exact Ev.now _

theorem l11Set_l0 (s : List Int) (hs : CodeOk s) : ∀ (m : Nat) (p a : Int) (acc : List Int), 0 ≤ p → p + m ≤ 800000 → m ≤ 60 → 0 ≤ a → a + 4 * m ≤ 1000000 → acc.length + m ≤ 60 →
    ∃ r q, Ev (fun k => spec_l11Set.l0 k acc a (m : Int) s p) (r, q) ∧ p ≤ q ∧ q ≤ p + m + 30 ∧ r.length ≤ 60 := by
  intro m
  induction m with
  | zero =>
    intro p a acc hp hb hm ha hab hacc
    obtain ⟨x, hx, h0, h1⟩ := pick_ev s hs p 20 hp (by omega) (by omega) (by omega)
    by_cases hx0 : x = 0
    · obtain ⟨r, q, hr, q0, q1, q2⟩ := l11Set_l1 s hs 17 0 (p + 1) [] (by omega) (by omega) (by omega) (by simp)
      refine ⟨r, q, Ev.step (fun k => spec_l11Set.l0.eq_2 _ _ _ _ _ _) ?_, by omega, by omega, by simp at q2; omega⟩
      simp only [if_neg (show ¬ (((0 : Nat) : Int) > 0) by omega)]
      refine Ev.bind hx ?_
      simp only [if_pos hx0]
      exact hr
    · refine ⟨acc, p + 1, Ev.step (fun k => spec_l11Set.l0.eq_2 _ _ _ _ _ _) ?_, by omega, by omega, by omega⟩
      simp only [if_neg (show ¬ (((0 : Nat) : Int) > 0) by omega)]
      refine Ev.bind hx ?_
      simp only [if_neg hx0]
      exact Ev.now _
  | succ m ih =>
    intro p a acc hp hb hm ha hab hacc
    obtain ⟨x, hx, h0, h1⟩ := pick_ev s hs p 3 hp (by omega) (by omega) (by omega)
    obtain ⟨r, q, hr, q0, q1, q2⟩ := ih (p + 1) (a + 1 + x) (acc ++ [a]) (by omega) (by omega) (by omega) (by omega) (by omega) (by simp; omega)
    refine ⟨r, q, Ev.step (fun k => spec_l11Set.l0.eq_2 _ _ _ _ _ _) ?_, by omega, by omega, q2⟩
    simp only [if_pos (show (((m + 1 : Nat) : Int) > 0) by omega), if_pos (show acc.length < 17592186044416 by omega)]
    refine Ev.bind hx ?_
    simp only [wrap_id (x := a + 1) (by omega) (by omega), wrap_id (x := a + 1 + x) (by omega) (by omega), wpred m (by omega)]
    exact hr

theorem l11Set_ev (s : List Int) (hs : CodeOk s) (p : Int) (hp : 0 ≤ p) (hp1 : p ≤ 700000) : ∃ r q, Ev (fun k => spec_l11Set.f k s p) (r, q) ∧ p ≤ q ∧ q ≤ p + 50 ∧ r.length ≤ 60 := by
  obtain ⟨a, ha, a0, a1⟩ := pick_ev s hs p 3 hp (by omega) (by omega) (by omega)
  obtain ⟨b, hb, b0, b1⟩ := pick_ev s hs (p + 1) 8 (by omega) (by omega) (by omega) (by omega)
  obtain ⟨m, rfl⟩ : ∃ m : Nat, b = (m : Int) := ⟨b.toNat, by omega⟩
  obtain ⟨r, q, hr, q0, q1, q2⟩ := l11Set_l0 s hs m (p + 1 + 1) a [] (by omega) (by omega) (by omega) a0 (by omega) (by simp; omega)
  refine ⟨r, q, ?_, by omega, by omega, q2⟩
  simp only [spec_l11Set.f]
  exact Ev.bind ha (Ev.bind hb hr)

theorem one_ev (s : List Int) (hs : CodeOk s) (p : Int) (l : List Int) (hp : 0 ≤ p) (hp1 : p ≤ 1000000) (hl : 1 ≤ l.length) (hl1 : l.length ≤ 1000000) :
    ∃ r, Ev (fun k => spec_l1Rd_one.f k s p l) (r, p + 1) ∧ r ∈ l := by
  obtain ⟨i, hi, h0, h1⟩ := pick_ev s hs p (l.length : Int) hp hp1 (by omega) (by omega)
  obtain ⟨j, rfl⟩ : ∃ j : Nat, i = (j : Int) := ⟨i.toNat, by omega⟩
  refine ⟨l[j]'(by omega), ?_, List.getElem_mem _⟩
  simp only [spec_l1Rd_one.f]
  refine Ev.bind hi ?_
  simp only [if_pos h0, if_pos h1, rd_get l j (by omega)]
  exact Ev.now _

theorem l11AnySet_ev (s : List Int) (hs : CodeOk s) (p : Int) (hp : 0 ≤ p) (hp1 : p ≤ 600000) : ∃ r q, Ev (fun k => spec_l11AnySet.f k s p) (r, q) ∧ p ≤ q ∧ q ≤ p + 60 ∧ r.length ≤ 61 := by
  obtain ⟨r, q, hr, q0, q1, q2⟩ := l11Set_ev s hs p hp (by omega)
  obtain ⟨i, hi, i0, i1⟩ := pick_ev s hs q 12 (by omega) (by omega) (by omega) (by omega)
  simp only [spec_l11AnySet.f]
  by_cases c0 : i = 0
  · obtain ⟨x, hx, _⟩ := one_ev s hs (q + 1) ([(-1), 0, 999999999, 1000000000] : List Int) (by omega) (by omega) (by decide) (by decide)
    refine ⟨r ++ [x], q + 1 + 1, Ev.bind hr (Ev.bind hi ?_), by omega, by omega, by simp; omega⟩
    simp only [if_pos c0]
    refine Ev.bind hx ?_
    simp only [if_pos (show r.length < 17592186044416 by omega)]
    exact Ev.now _
  · by_cases c1 : i = 1
    · obtain ⟨x, hx, x0, x1⟩ := pick_ev s hs (q + 1) 5 (by omega) (by omega) (by omega) (by omega)
      refine ⟨[x] ++ r, q + 1 + 1, Ev.bind hr (Ev.bind hi ?_), by omega, by omega, by simp; omega⟩
      simp only [if_neg c0, if_pos c1]
      refine Ev.bind hx ?_
      simp only [Option.bind_some, List.length_singleton, if_pos (show 1 + r.length < 17592186044416 by omega)]
      exact Ev.now _
    · refine ⟨r, q + 1, Ev.bind hr (Ev.bind hi ?_), by omega, by omega, by omega⟩
      simp only [if_neg c0, if_neg c1]
      exact Ev.now _

theorem u8_range {l : List Int} (h : ∀ x ∈ l, (Lit.int .u8 x).wf = true) : ∀ c ∈ l, 0 ≤ c ∧ c ≤ 255 := by
  intro c hc
  have := h c hc
  simp [Lit.wf, IntKind.min, IntKind.max, IntKind.bits, IntKind.signed] at this
  omega

theorem DrawSetAnd_ev (l : List Int) (h : ∀ x ∈ l, (Lit.int .u8 x).wf = true) : ∃ a b, Ev (fun k => spec_DrawSetAnd.f k l) (a, b) ∧ a.length ≤ 61 ∧ b.length ≤ 61 := by
  obtain ⟨s', h1, hs⟩ := l1Open_eq l (u8_range h)
  obtain ⟨a, q, ha, q0, q1, q2⟩ := l11AnySet_ev s' hs 0 (by omega) (by omega)
  obtain ⟨b, p, hb, p0, p1, p2⟩ := l11AnySet_ev s' hs q (by omega) (by omega)
  refine ⟨a, b, ?_, q2, p2⟩
  simp only [spec_DrawSetAnd.f, h1, Option.bind_some]
  exact Ev.bind ha (Ev.bind hb (Ev.now _))

theorem DrawSetOr_ev (l : List Int) (h : ∀ x ∈ l, (Lit.int .u8 x).wf = true) : ∃ a b, Ev (fun k => spec_DrawSetOr.f k l) (a, b) ∧ a.length ≤ 61 ∧ b.length ≤ 61 := by
  obtain ⟨a, b, h1, ha, hb⟩ := DrawSetAnd_ev l h
  exact ⟨a, b, Ev.bind h1 (Ev.now _), ha, hb⟩

theorem FnSetOr : laws_FnSetOr.Pure := by
  intro l hm hl hw
  refine Ev.rounds (g := fun k => laws_FnSetOr.f k l) ?_
  simp only [laws_FnSetOr.f]
  by_cases hg : (l.length : Int) > 1048576
  · simp only [if_pos hg]; exact Ev.now _
  simp only [if_neg hg]
  obtain ⟨a, b, h1, ha, hb⟩ := DrawSetOr_ev l hw
  have hlen := orAL_length a b
  refine Ev.bind h1 ?_
  refine Ev.bind (impl_SetOr_ev a b (by omega) (by omega)) ?_
  refine Ev.bind (spec_SetOr_ev a b (by omega) (by omega)) ?_
  refine Ev.bind (sdInts_true rfl (by omega)) ?_
  simp only [if_true]
  refine Ev.bind (spec_SetOk_ev a (by omega)) ?_
  have hj : Ev (fun k => laws_FnSetOr.j0 k a b (orAL a b) true) true := by
    refine Ev.step (fun k => laws_FnSetOr.j0.eq_2 _ _ _ _ _) ?_
    simp only [if_true]
    refine Ev.bind (spec_SetOr_ev a b (by omega) (by omega)) ?_
    exact Ev.bind (sdInts_true rfl (by omega)) (Ev.now _)
  cases oa : setOkB a with
  | false => simp only [if_neg (show ¬ (false = true) by decide)]; exact hj
  | true =>
    simp only [if_true]
    refine Ev.bind (spec_SetOk_ev b (by omega)) ?_
    cases ob : setOkB b with
    | false => simp only [Bool.not_false]; exact hj
    | true =>
      simp only [Bool.not_true]
      refine Ev.step (fun k => laws_FnSetOr.j0.eq_2 _ _ _ _ _) ?_
      simp only [if_neg (show ¬ (false = true) by decide)]
      exact FnSetOr_l0 a b ha hb oa ob (orAL a b).length 0 (by omega)

end Go.Proofs.Ytglcgkbecfmegaa.Pure
