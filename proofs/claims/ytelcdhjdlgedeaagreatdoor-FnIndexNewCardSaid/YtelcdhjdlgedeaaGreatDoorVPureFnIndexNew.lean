/- The plain law of FnIndexNew: whatever the input, the printed function of this law answers true after enough rounds; conditions: only the sizes and kinds that the law's Pure states. -/
import Derived.Test.YtelcdhjdlgedeaaGreatDoorVSFnIndexNew
namespace Go.Proofs.YtelcdhjdlgedeaaGreatDoor.Pure
open Go.RowKit Go.Proofs.YtelcdhjdlgedeaaGreatDoor.PFnIndexNew Go.Proofs.YtelcdhjdlgedeaaGreatDoorW.PrintWords Go.Proofs.YtelcdhjdlgedeaaGreatDoorW.PrintLast Go.Proofs.YtelcdhjdlgedeaaGreatDoorW.PrintMore
set_option linter.unusedVariables false
set_option linter.unusedSimpArgs false

def fieldP (f : S79) : Prop := (f.f1 = 1 ∧ 1 ≤ f.f2 ∧ f.f2 ≤ 9) ∨ (2 ≤ f.f1 ∧ f.f1 ≤ 3 ∧ f.f2 = 0)

def digP (c : Int) : Prop := 48 ≤ c ∧ c ≤ 57
instance (c : Int) : Decidable (digP c) := by unfold digP; infer_instance

def lowP (c : Int) : Prop := 97 ≤ c ∧ c ≤ 122
instance (c : Int) : Decidable (lowP c) := by unfold lowP; infer_instance

def nameFrom (l : List Int) (j : Nat) : Prop := (∀ (i : Nat) (h : i < l.length), j ≤ i → lowP l[i] ∨ (0 < i ∧ digP l[i])) ∧ 1 ≤ l.length ∧ l.length ≤ 8

def fieldsFrom (l : List S79) (j : Nat) : Prop := (∀ (i : Nat) (h : i < l.length), j ≤ i → nameFrom (bytesOf l[i].f0) 0 ∧ fieldP l[i] ∧ ∀ m (hm : m < i), l[m].f0 ≠ l[i].f0) ∧ 1 ≤ l.length ∧ l.length ≤ 4

open Classical in
noncomputable def fieldsB (l : List S79) : Bool := decide (fieldsFrom l 0)

open Classical in
theorem fieldsB_iff {l : List S79} : fieldsB l = true ↔ fieldsFrom l 0 := by unfold fieldsB; exact decide_eq_true_iff

noncomputable def idxN (l : List S79) : (List S79) × (List S59) × (List S62) × Int × Bool := if fieldsB l = true then (l, [], [], 0, true) else ([], [], [], 0, false)

theorem fieldsFrom_end {l : List S79} {j : Nat} (hj : l.length ≤ j) : fieldsFrom l j ↔ 1 ≤ l.length ∧ l.length ≤ 4 := ⟨fun h => h.2, fun h => ⟨fun i hi hji => by omega, h⟩⟩

theorem fieldsFrom_step {l : List S79} {j : Nat} (hj : j < l.length) : fieldsFrom l j ↔ (nameFrom (bytesOf l[j].f0) 0 ∧ fieldP l[j] ∧ ∀ m (hm : m < j), l[m].f0 ≠ l[j].f0) ∧ fieldsFrom l (j + 1) := by
  constructor
  · rintro ⟨h, h2⟩
    exact ⟨h j hj (Nat.le_refl _), fun i hi hji => h i hi (by omega), h2⟩
  · rintro ⟨h, h1, h2⟩
    refine ⟨fun i hi hji => ?_, h2⟩
    rcases Nat.lt_or_ge j i with hlt | hge
    · exact h1 i hi hlt
    · obtain rfl : i = j := by omega
      exact h

theorem rdi_Field (l : List S79) (j : Nat) (h : j < l.length) : rd_T79 l (j : Int) = l[j] := by
  unfold rd_T79; simp [List.getD_eq_getElem?_getD, List.getElem?_eq_getElem h]

open Classical in
noncomputable def nameB (l : List Int) : Bool := decide (nameFrom l 0)

open Classical in
theorem nameB_iff {l : List Int} : nameB l = true ↔ nameFrom l 0 := by unfold nameB; exact decide_eq_true_iff

theorem ev_eq {α : Type} {g : Nat → Option α} {r : α} (h : ∀ k, g k = some r) : Ev g r := ⟨0, fun k _ => h k⟩

theorem ev_false {g : Nat → Option Bool} {p : Prop} [Decidable p] (h : ¬ p) (k : Ev g false) : Ev g (decide p) := by
  rw [decide_eq_false h]; exact k

theorem ev_prop {g : Nat → Option Bool} {p q : Prop} [Decidable p] [Decidable q] (h : p ↔ q) (k : Ev g (decide p)) : Ev g (decide q) := by
  have : decide p = decide q := decide_eq_decide.2 h
  rw [← this]; exact k

theorem wrap_id {x : Int} (h0 : -9223372036854775808 ≤ x) (h1 : x ≤ 9223372036854775807) : wrap64 x = x := by unfold wrap64; omega

theorem wsucc (j : Nat) (h : j < 9223372036854775807) : wrap64 ((j : Int) + 1) = ((j + 1 : Nat) : Int) := by rw [wrap_id (by omega) (by omega)]; omega

theorem nameFrom_end {l : List Int} {j : Nat} (hj : l.length ≤ j) : nameFrom l j ↔ 1 ≤ l.length ∧ l.length ≤ 8 := ⟨fun h => h.2, fun h => ⟨fun i hi hji => by omega, h⟩⟩

theorem nameFrom_step {l : List Int} {j : Nat} (hj : j < l.length) : nameFrom l j ↔ (lowP l[j] ∨ (0 < j ∧ digP l[j])) ∧ nameFrom l (j + 1) := by
  constructor
  · rintro ⟨h, h2⟩
    exact ⟨h j hj (Nat.le_refl _), fun i hi hji => h i hi (by omega), h2⟩
  · rintro ⟨h, h1, h2⟩
    refine ⟨fun i hi hji => ?_, h2⟩
    rcases Nat.lt_or_ge j i with hlt | hge
    · exact h1 i hi hlt
    · obtain rfl : i = j := by omega
      exact h

theorem rd_get (l : List Int) (j : Nat) (h : j < l.length) : rd l (j : Int) = l[j] := by
  unfold rd; simp [List.getD_eq_getElem?_getD, List.getElem?_eq_getElem h]

theorem bt_get (s : ByteArray) (j : Nat) (h : j < (bytesOf s).length) : bt s (j : Int) = (bytesOf s)[j] := by
  rw [← rd_bytesOf, rd_get _ _ h]

theorem impl_digit_eq (a : Int) : impl_digit.f a = some (decide (digP a)) := by
  unfold impl_digit.f digP
  by_cases h : a ≥ 48
  · rw [if_pos h]; congr 1; exact decide_eq_decide.2 (by omega)
  · rw [if_neg h]; congr 1; symm; exact decide_eq_false (by omega)

theorem impl_lower_eq (a : Int) : impl_lower.f a = some (decide (lowP a)) := by
  unfold impl_lower.f lowP
  by_cases h : a ≥ 97
  · rw [if_pos h]; congr 1; exact decide_eq_decide.2 (by omega)
  · rw [if_neg h]; congr 1; symm; exact decide_eq_false (by omega)

theorem impl_within_eq (a b c : Int) : impl_within.f a b c = some (decide (b ≤ a ∧ a ≤ c)) := by
  unfold impl_within.f
  by_cases h : a ≥ b
  · rw [if_pos h]; congr 1; exact decide_eq_decide.2 ⟨fun h2 => ⟨h, h2⟩, fun h2 => h2.2⟩
  · rw [if_neg h]; congr 1; symm; exact decide_eq_false (fun h2 => h h2.1)

open Classical in
theorem impl_NameOk_l0 (s : ByteArray) (hn : s.size < 4611686018427387904) : ∀ (d i : Nat), i + d = s.size → Ev (fun k => impl_NameOk.l0 k s (s.size : Int) (i : Int)) (decide (nameFrom (bytesOf s) i)) := by
  have hb := bytesOf_length s
  intro d
  induction d with
  | zero =>
    intro i hi
    refine Ev.step (fun k => impl_NameOk.l0.eq_2 _ _ _ _) ?_
    simp only [if_neg (show ¬ ((i : Int) < (s.size : Int)) by omega), impl_within_eq, Option.bind_some]
    refine ev_prop (nameFrom_end (by omega)).symm ?_
    refine ev_eq fun _ => ?_
    congr 1; exact decide_eq_decide.2 (by omega)
  | succ d ih =>
    intro i hi
    have hs := nameFrom_step (l := bytesOf s) (j := i) (by omega)
    refine Ev.step (fun k => impl_NameOk.l0.eq_2 _ _ _ _) ?_
    simp only [if_pos (show ((i : Int) < (s.size : Int)) by omega), if_pos (show 0 ≤ (i : Int) by omega), wsucc i (by omega), bt_get s i (by omega), impl_lower_eq, impl_digit_eq, Option.bind_some, decide_eq_true_eq]
    by_cases h1 : lowP (bytesOf s)[i]
    · simp only [if_pos h1]
      exact ev_prop (hs.trans ⟨fun h => h.2, fun h => ⟨.inl h1, h⟩⟩).symm (ih (i + 1) (by omega))
    · simp only [if_neg h1]
      by_cases h0 : (i : Int) = 0
      · simp only [if_pos h0]
        have : decide (nameFrom (bytesOf s) i) = false := decide_eq_false (fun h => by rcases (hs.1 h).1 with h2 | h2; exact h1 h2; omega)
        rw [this]; exact Ev.now _
      · simp only [if_neg h0]
        by_cases h2 : digP (bytesOf s)[i]
        · simp only [if_pos h2]
          exact ev_prop (hs.trans ⟨fun h => h.2, fun h => ⟨.inr ⟨by omega, h2⟩, h⟩⟩).symm (ih (i + 1) (by omega))
        · simp only [if_neg h2]
          have : decide (nameFrom (bytesOf s) i) = false := decide_eq_false (fun h => by rcases (hs.1 h).1 with h3 | h3; exact h1 h3; exact h2 h3.2)
          rw [this]; exact Ev.now _

theorem impl_NameOk_ev (s : ByteArray) (hn : s.size < 4611686018427387904) : Ev (fun k => impl_NameOk.f k s) (nameB (bytesOf s)) := impl_NameOk_l0 s hn s.size 0 (by omega)

theorem mem_drop_step {α : Type} {l : List α} {j : Nat} {n : α} (h : j < l.length) : n ∈ l.drop j ↔ n = l[j] ∨ n ∈ l.drop (j + 1) := by
  rw [List.drop_eq_getElem_cons h, List.mem_cons]

theorem toList_data (s : ByteArray) : s.toList = s.data.toList := by
  exact ByteArray.toList_eq s

theorem toList_inj {a b : ByteArray} : a.toList = b.toList ↔ a = b := by
  rw [toList_data, toList_data]
  constructor
  · intro h; exact ByteArray.ext (Array.toList_inj.1 h)
  · rintro rfl; rfl

theorem rdOf_get {α : Type} (d : α) (l : List α) (j : Nat) (h : j < l.length) : rdOf d l (j : Int) = l[j] := by
  unfold rdOf; simp [List.getD_eq_getElem?_getD, List.getElem?_eq_getElem h]

theorem rdOf_str (l : List ByteArray) (j : Nat) (h : j < l.length) : rdOf ByteArray.empty l (j : Int) = l[j] := rdOf_get _ l j h

open Classical in
theorem slices_Index_string_string_l0 (l : List ByteArray) (n : ByteArray) (hn : l.length < 4611686018427387904) : ∀ (d i : Nat), i + d = l.length → ∃ r : Int, Ev (fun k => slices_Index_string_string.l0 k l n (l.length : Int) (i : Int)) r ∧ decide (r ≥ 0) = decide (n ∈ l.drop i) := by
  intro d
  induction d with
  | zero =>
    intro i hi
    refine ⟨-1, Ev.step (fun k => slices_Index_string_string.l0.eq_2 _ _ _ _ _) ?_, ?_⟩
    · simp only [if_neg (show ¬ ((i : Int) < (l.length : Int)) by omega)]
      exact Ev.now _
    · rw [List.drop_of_length_le (by omega)]; simp
  | succ d ih =>
    intro i hi
    have hs := mem_drop_step (l := l) (n := n) (show i < l.length by omega)
    by_cases h : n = l[i]
    · refine ⟨(i : Int), Ev.step (fun k => slices_Index_string_string.l0.eq_2 _ _ _ _ _) ?_, ?_⟩
      · simp only [if_pos (show ((i : Int) < (l.length : Int)) by omega), if_pos (show 0 ≤ (i : Int) by omega), rdOf_str l i (by omega), toList_inj, if_pos h]
        exact Ev.now _
      · rw [decide_eq_true (hs.2 (.inl h))]; simp
    · obtain ⟨r, h1, h2⟩ := ih (i + 1) (by omega)
      refine ⟨r, Ev.step (fun k => slices_Index_string_string.l0.eq_2 _ _ _ _ _) ?_, ?_⟩
      · simp only [if_pos (show ((i : Int) < (l.length : Int)) by omega), if_pos (show 0 ≤ (i : Int) by omega), rdOf_str l i (by omega), toList_inj, if_neg h, wsucc i (by omega)]
        exact h1
      · rw [h2]; exact decide_eq_decide.2 (hs.trans ⟨fun h1 => h1.resolve_left h, .inr⟩).symm

open Classical in
theorem slices_Contains_string_string_ev (l : List ByteArray) (n : ByteArray) (hn : l.length < 4611686018427387904) : Ev (fun k => slices_Contains_string_string.f k l n) (decide (n ∈ l)) := by
  obtain ⟨r, h1, h2⟩ := slices_Index_string_string_l0 l n hn l.length 0 (by omega)
  simp only [slices_Contains_string_string.f]
  refine Ev.bind (a := r) h1 ?_
  rw [h2]; exact Ev.now _

open Classical in
theorem impl_FieldsOk_l0 (l : List S79) (hn : l.length ≤ 1048577) (hs : ∀ x ∈ l, x.f0.size ≤ 1048576) : ∀ (d i : Nat), i + d = l.length →
    Ev (fun k => impl_FieldsOk.l0 k l ((l.take i).map (fun x => x.f0)) l (l.length : Int) (i : Int)) (decide (fieldsFrom l i)) := by
  intro d
  induction d with
  | zero =>
    intro i hi
    refine Ev.step (fun k => impl_FieldsOk.l0.eq_2 _ _ _ _ _ _) ?_
    simp only [if_neg (show ¬ ((i : Int) < (l.length : Int)) by omega), impl_within_eq, Option.bind_some]
    refine ev_prop (fieldsFrom_end (by omega)).symm ?_
    refine ev_eq fun _ => ?_
    congr 1; exact decide_eq_decide.2 (by omega)
  | succ d ih =>
    intro i hi
    have hst := fieldsFrom_step (l := l) (j := i) (by omega)
    have hsz := hs l[i] (List.getElem_mem _)
    have hlen : ((l.take i).map (fun x => x.f0)).length = i := by rw [List.length_map, List.length_take]; omega
    have hmem : l[i].f0 ∈ (l.take i).map (fun x => x.f0) ↔ ∃ m, ∃ hm : m < i, l[m].f0 = l[i].f0 := by
      rw [List.mem_map]
      constructor
      · rintro ⟨x, hx, he⟩
        obtain ⟨m, hm, rfl⟩ := List.mem_iff_getElem.1 hx
        rw [List.length_take] at hm
        exact ⟨m, by omega, by rw [← he, List.getElem_take]⟩
      · rintro ⟨m, hm, he⟩
        exact ⟨l[m], List.mem_iff_getElem.2 ⟨m, by rw [List.length_take]; omega, by rw [List.getElem_take]⟩, he⟩
    have hnx : (l.take (i + 1)).map (fun x => x.f0) = (l.take i).map (fun x => x.f0) ++ [l[i].f0] := by
      rw [List.take_add_one, List.getElem?_eq_getElem (by omega), List.map_append]; rfl
    refine Ev.step (fun k => impl_FieldsOk.l0.eq_2 _ _ _ _ _ _) ?_
    simp only [if_pos (show ((i : Int) < (l.length : Int)) by omega), if_pos (show 0 ≤ (i : Int) by omega), rdi_Field l i (by omega), impl_within_eq, Option.bind_some]
    have hj1 : ∀ (t : Bool), ((t = true ∧ 1 ≤ l[i].f1 ∧ l[i].f1 ≤ 3) ↔ fieldP l[i]) → Ev (fun k => impl_FieldsOk.j1 k l ((l.take i).map (fun x => x.f0)) t l (l.length : Int) (i : Int) l[i].f0 l[i].f1 l[i].f2) (decide (fieldsFrom l i)) := by
      intro t ht
      refine Ev.step (fun k => impl_FieldsOk.j1.eq_2 _ _ _ _ _ _ _ _ _ _) ?_
      refine Ev.bind (impl_NameOk_ev l[i].f0 (by omega)) ?_
      cases hnm : nameB (bytesOf l[i].f0) with
      | false =>
        simp only [if_neg (show ¬ (false = true) by decide)]
        refine ev_false (fun h => ?_) (Ev.now _)
        have := nameB_iff.2 (hst.1 h).1.1
        rw [hnm] at this; cases this
      | true =>
        simp only [if_true]
        refine Ev.bind (slices_Contains_string_string_ev _ _ (by rw [hlen]; omega)) ?_
        simp only [decide_eq_true_eq, impl_within_eq, Option.bind_some]
        by_cases hc : l[i].f0 ∈ (l.take i).map (fun x => x.f0)
        · simp only [if_pos hc]
          obtain ⟨m, hm, he⟩ := hmem.1 hc
          exact ev_false (fun h => (hst.1 h).1.2.2 m hm he) (Ev.now _)
        · simp only [if_neg hc]
          by_cases hp : fieldP l[i]
          · obtain ⟨h1, h2⟩ := ht.2 hp
            simp only [if_pos h2, h1, if_true, hlen, if_pos (show i < 8796093022208 by omega), wsucc i (by omega)]
            have hnext := ih (i + 1) (by omega)
            rw [hnx] at hnext
            exact ev_prop (hst.trans ⟨fun h => h.2, fun h => ⟨⟨nameB_iff.1 hnm, hp, fun m hm he => hc (hmem.2 ⟨m, hm, he⟩)⟩, h⟩⟩).symm hnext
          · have hf : Ev (fun _ => some false) (decide (fieldsFrom l i)) := ev_false (fun h => hp (hst.1 h).1.2.1) (Ev.now _)
            by_cases h2 : 1 ≤ l[i].f1 ∧ l[i].f1 ≤ 3
            · have h1 : t = false := by
                cases t
                · rfl
                · exact absurd (ht.1 ⟨rfl, h2⟩) hp
              simp only [if_pos h2, h1, if_neg (show ¬ (false = true) by decide)]; exact hf
            · simp only [if_neg h2]; exact hf
    by_cases h1 : l[i].f1 = 1
    · simp only [if_pos h1]
      refine hj1 _ ?_
      unfold fieldP
      rw [decide_eq_true_eq]
      constructor
      · intro h; exact .inl ⟨h1, h.1⟩
      · intro h
        rcases h with h | h
        · exact ⟨h.2, by omega, by omega⟩
        · omega
    · simp only [if_neg h1]
      refine hj1 _ ?_
      unfold fieldP
      rw [beq_iff_eq]
      constructor
      · intro h; exact .inr ⟨by omega, h.2.2, h.1⟩
      · intro h
        rcases h with h | h
        · exact absurd h.1 h1
        · exact ⟨h.2.2, by omega, h.2.1⟩

theorem impl_FieldsOk_ev (l : List S79) (hn : l.length ≤ 1048577) (hs : ∀ x ∈ l, x.f0.size ≤ 1048576) : Ev (fun k => impl_FieldsOk.f k l) (fieldsB l) := impl_FieldsOk_l0 l hn hs l.length 0 (by omega)

theorem impl_IndexNew_ev (l : List S79) (hn : l.length ≤ 1048576) (hs : ∀ x ∈ l, x.f0.size ≤ 1048576) : Ev (fun k => impl_IndexNew.f k l) (idxN l) := by
  simp only [impl_IndexNew.f, idxN]
  refine Ev.bind (impl_FieldsOk_ev l (by omega) hs) ?_
  cases fieldsB l with
  | false => exact Ev.now _
  | true =>
    simp only [if_true, Option.bind_some, List.nil_append, List.length_nil, Nat.zero_add, if_pos (show l.length < 4398046511104 by omega)]
    exact Ev.now _

theorem spec_l2Field_l0 (l : List S79) (n : ByteArray) (hn : l.length < 4611686018427387904) : ∀ (d i : Nat), i + d = l.length → (∀ m (hm : m < l.length), m < i → l[m].f0 ≠ n) →
    ∃ r, Ev (fun k => spec_l2Field.l0 k l n (i : Int)) r ∧ ((r = -1 ∧ ∀ x ∈ l, x.f0 ≠ n) ∨ ∃ (j : Nat) (hj : j < l.length), r = (j : Int) ∧ l[j].f0 = n ∧ ∀ m (hm : m < j), l[m].f0 ≠ n) := by
  intro d
  induction d with
  | zero =>
    intro i hi hb
    refine ⟨-1, Ev.step (fun k => spec_l2Field.l0.eq_2 _ _ _ _) ?_, .inl ⟨rfl, fun x hx => ?_⟩⟩
    · simp only [if_neg (show ¬ ((i : Int) < (l.length : Int)) by omega)]; exact Ev.now _
    · obtain ⟨m, hm, rfl⟩ := List.mem_iff_getElem.1 hx
      exact hb m hm (by omega)
  | succ d ih =>
    intro i hi hb
    by_cases h : l[i].f0 = n
    · refine ⟨(i : Int), Ev.step (fun k => spec_l2Field.l0.eq_2 _ _ _ _) ?_, .inr ⟨i, by omega, rfl, h, fun m hm => hb m (by omega) hm⟩⟩
      simp only [if_pos (show ((i : Int) < (l.length : Int)) by omega), if_pos (show 0 ≤ (i : Int) by omega), rdi_Field l i (by omega), toList_inj, if_pos h]
      exact Ev.now _
    · obtain ⟨r, hr, hq⟩ := ih (i + 1) (by omega) (fun m hm hlt => by
        rcases Nat.lt_or_ge m i with h1 | h1
        · exact hb m hm h1
        · obtain rfl : m = i := by omega
          exact h)
      refine ⟨r, Ev.step (fun k => spec_l2Field.l0.eq_2 _ _ _ _) ?_, hq⟩
      simp only [if_pos (show ((i : Int) < (l.length : Int)) by omega), if_pos (show 0 ≤ (i : Int) by omega), rdi_Field l i (by omega), toList_inj, if_neg h, wsucc i (by omega)]
      exact hr

theorem spec_l2Field_ev (l : List S79) (n : ByteArray) (hn : l.length < 4611686018427387904) :
    ∃ r, Ev (fun k => spec_l2Field.f k l n) r ∧ ((r = -1 ∧ ∀ x ∈ l, x.f0 ≠ n) ∨ ∃ (j : Nat) (hj : j < l.length), r = (j : Int) ∧ l[j].f0 = n ∧ ∀ m (hm : m < j), l[m].f0 ≠ n) :=
  spec_l2Field_l0 l n hn l.length 0 (by omega) (fun m hm h => absurd h (by omega))

theorem spec_l1In_eq (a b c : Int) : spec_l1In.f a b c = some (decide (b ≤ a ∧ a ≤ c)) := by
  unfold spec_l1In.f
  by_cases h : a ≥ b
  · rw [if_pos h]; congr 1; exact decide_eq_decide.2 ⟨fun h2 => ⟨h, h2⟩, fun h2 => h2.2⟩
  · rw [if_neg h]; congr 1; symm; exact decide_eq_false (fun h2 => h h2.1)

open Classical in
theorem spec_NameOk_l0 (s : ByteArray) (hn : s.size < 4611686018427387904) : ∀ (d i : Nat), i + d = s.size → Ev (fun k => spec_NameOk.l0 k s (i : Int)) (decide (nameFrom (bytesOf s) i)) := by
  have hb := bytesOf_length s
  intro d
  induction d with
  | zero =>
    intro i hi
    refine Ev.step (fun k => spec_NameOk.l0.eq_2 _ _ _) ?_
    simp only [if_neg (show ¬ ((i : Int) < (s.size : Int)) by omega), spec_l1In_eq, Option.bind_some]
    refine ev_prop (nameFrom_end (by omega)).symm ?_
    refine ev_eq fun _ => ?_
    congr 1; exact decide_eq_decide.2 (by omega)
  | succ d ih =>
    intro i hi
    have hs := nameFrom_step (l := bytesOf s) (j := i) (by omega)
    refine Ev.step (fun k => spec_NameOk.l0.eq_2 _ _ _) ?_
    simp only [if_pos (show ((i : Int) < (s.size : Int)) by omega), if_pos (show 0 ≤ (i : Int) by omega), wsucc i (by omega), bt_get s i (by omega)]
    by_cases h1 : lowP (bytesOf s)[i]
    · simp only [if_pos (show (bytesOf s)[i] ≥ 97 from h1.1), if_pos h1.2]
      exact ev_prop (hs.trans ⟨fun h => h.2, fun h => ⟨.inl h1, h⟩⟩).symm (ih (i + 1) (by omega))
    · have key : Ev (fun k => if (i : Int) = 0 then some false else if (bytesOf s)[i] < 48 then some false else if (bytesOf s)[i] > 57 then some false else spec_NameOk.l0 k s ((i + 1 : Nat) : Int)) (decide (nameFrom (bytesOf s) i)) := by
        by_cases h0 : (i : Int) = 0
        · simp only [if_pos h0]
          have : decide (nameFrom (bytesOf s) i) = false := decide_eq_false (fun h => by rcases (hs.1 h).1 with h2 | h2; exact h1 h2; omega)
          rw [this]; exact Ev.now _
        · simp only [if_neg h0]
          by_cases h2 : digP (bytesOf s)[i]
          · simp only [if_neg (show ¬ (bytesOf s)[i] < 48 by have := h2.1; omega), if_neg (show ¬ (bytesOf s)[i] > 57 by have := h2.2; omega)]
            exact ev_prop (hs.trans ⟨fun h => h.2, fun h => ⟨.inr ⟨by omega, h2⟩, h⟩⟩).symm (ih (i + 1) (by omega))
          · have : decide (nameFrom (bytesOf s) i) = false := decide_eq_false (fun h => by rcases (hs.1 h).1 with h3 | h3; exact h1 h3; exact h2 h3.2)
            rw [this]
            by_cases h3 : (bytesOf s)[i] < 48
            · simp only [if_pos h3]; exact Ev.now _
            · simp only [if_neg h3, if_pos (show (bytesOf s)[i] > 57 by unfold digP at h2; omega)]; exact Ev.now _
      by_cases h3 : (bytesOf s)[i] ≥ 97
      · simp only [if_pos h3, if_neg (show ¬ (bytesOf s)[i] ≤ 122 by unfold lowP at h1; omega)]; exact key
      · simp only [if_neg h3]; exact key

theorem spec_NameOk_ev (s : ByteArray) (hn : s.size < 4611686018427387904) : Ev (fun k => spec_NameOk.f k s) (nameB (bytesOf s)) := spec_NameOk_l0 s hn s.size 0 (by omega)

open Classical in
theorem spec_FieldsOk_l0 (l : List S79) (hn : l.length ≤ 1048577) (hs : ∀ x ∈ l, x.f0.size ≤ 1048576) : ∀ (d i : Nat), i + d = l.length → Ev (fun k => spec_FieldsOk.l0 k l (i : Int)) (decide (fieldsFrom l i)) := by
  intro d
  induction d with
  | zero =>
    intro i hi
    refine Ev.step (fun k => spec_FieldsOk.l0.eq_2 _ _ _) ?_
    simp only [if_neg (show ¬ ((i : Int) < (l.length : Int)) by omega), spec_l1In_eq, Option.bind_some]
    refine ev_prop (fieldsFrom_end (by omega)).symm ?_
    refine ev_eq fun _ => ?_
    congr 1; exact decide_eq_decide.2 (by omega)
  | succ d ih =>
    intro i hi
    have hst := fieldsFrom_step (l := l) (j := i) (by omega)
    have hsz := hs l[i] (List.getElem_mem _)
    refine Ev.step (fun k => spec_FieldsOk.l0.eq_2 _ _ _) ?_
    simp only [if_pos (show ((i : Int) < (l.length : Int)) by omega), if_pos (show 0 ≤ (i : Int) by omega), rdi_Field l i (by omega), spec_l1In_eq, Option.bind_some]
    have hj2 : ∀ (t o : Bool), ((t || o) = true ↔ fieldP l[i]) → Ev (fun k => spec_FieldsOk.j2 k l (i : Int) t o l[i].f0 l[i].f1 l[i].f2) (decide (fieldsFrom l i)) := by
      intro t o hto
      refine Ev.step (fun k => spec_FieldsOk.j2.eq_2 _ _ _ _ _ _ _ _) ?_
      refine Ev.bind (spec_NameOk_ev l[i].f0 (by omega)) ?_
      cases hnm : nameB (bytesOf l[i].f0) with
      | false =>
        simp only [if_neg (show ¬ (false = true) by decide)]
        refine ev_false (fun h => ?_) (Ev.now _)
        have := nameB_iff.2 (hst.1 h).1.1
        rw [hnm] at this; cases this
      | true =>
        simp only [if_true]
        obtain ⟨r, hr, hq⟩ := spec_l2Field_ev l l[i].f0 (by omega)
        refine Ev.bind hr ?_
        by_cases he : r = (i : Int)
        · have hfirst : ∀ m (hm : m < i), l[m].f0 ≠ l[i].f0 := by
            rcases hq with hq | ⟨j, hj, h1, h2, h3⟩
            · omega
            · obtain rfl : j = i := by omega
              exact h3
          simp only [if_pos he, wsucc i (by omega)]
          have hnext := ih (i + 1) (by omega)
          by_cases hp : fieldP l[i]
          · have hb := hto.2 hp
            have hgoal : Ev (fun k => spec_FieldsOk.l0 k l ((i + 1 : Nat) : Int)) (decide (fieldsFrom l i)) := ev_prop (hst.trans ⟨fun h => h.2, fun h => ⟨⟨nameB_iff.1 hnm, hp, hfirst⟩, h⟩⟩).symm hnext
            cases t with
            | true => simp only [if_true]; exact hgoal
            | false =>
              have ho : o = true := by simpa using hb
              simp only [if_neg (show ¬ (false = true) by decide), ho, if_true]; exact hgoal
          · have hb : (t || o) = false := by rw [Bool.eq_false_iff]; exact fun h => hp (hto.1 h)
            have ht : t = false := by cases t; rfl; simp at hb
            have ho : o = false := by cases o; rfl; simp at hb
            simp only [ht, ho, if_neg (show ¬ (false = true) by decide)]
            exact ev_false (fun h => hp (hst.1 h).1.2.1) (Ev.now _)
        · simp only [if_neg he]
          refine ev_false (fun h => ?_) (Ev.now _)
          have h4 := (hst.1 h).1.2.2
          rcases hq with ⟨h1, h2⟩ | ⟨j, hj, h1, h2, h3⟩
          · exact h2 l[i] (List.getElem_mem _) rfl
          · rcases Nat.lt_trichotomy j i with h5 | h5 | h5
            · exact h4 j h5 h2
            · exact he (by omega)
            · exact h3 i h5 rfl
    have hj1 : ∀ (t : Bool), (t = true ↔ (l[i].f1 = 1 ∧ 1 ≤ l[i].f2 ∧ l[i].f2 ≤ 9)) → Ev (fun k => spec_FieldsOk.j1 k l (i : Int) t l[i].f0 l[i].f1 l[i].f2) (decide (fieldsFrom l i)) := by
      intro t ht
      refine Ev.step (fun k => spec_FieldsOk.j1.eq_2 _ _ _ _ _ _ _) ?_
      simp only [spec_l1In_eq, Option.bind_some, decide_eq_true_eq]
      by_cases h2 : 2 ≤ l[i].f1 ∧ l[i].f1 ≤ 3
      · simp only [if_pos h2]
        refine hj2 t _ ?_
        unfold fieldP
        rw [Bool.or_eq_true, ht, beq_iff_eq]
        constructor
        · rintro (h | h)
          · exact .inl h
          · exact .inr ⟨h2.1, h2.2, h⟩
        · rintro (h | h)
          · exact .inl h
          · exact .inr h.2.2
      · simp only [if_neg h2]
        refine hj2 t false ?_
        unfold fieldP
        rw [Bool.or_false, ht]
        exact ⟨.inl, fun h => h.resolve_right (fun h3 => h2 ⟨h3.1, h3.2.1⟩)⟩
    by_cases h1 : l[i].f1 = 1
    · simp only [if_pos h1]
      refine hj1 _ ?_
      rw [decide_eq_true_eq]
      exact ⟨fun h => ⟨h1, h⟩, fun h => h.2⟩
    · simp only [if_neg h1]
      exact hj1 false ⟨(fun h => by cases h), fun h => absurd h.1 h1⟩

theorem spec_FieldsOk_ev (l : List S79) (hn : l.length ≤ 1048577) (hs : ∀ x ∈ l, x.f0.size ≤ 1048576) : Ev (fun k => spec_FieldsOk.f k l) (fieldsB l) := spec_FieldsOk_l0 l hn hs l.length 0 (by omega)

theorem spec_IndexNew_ev (l : List S79) (hn : l.length ≤ 1048576) (hs : ∀ x ∈ l, x.f0.size ≤ 1048576) : Ev (fun k => spec_IndexNew.f k l) (idxN l) := by
  simp only [spec_IndexNew.f, idxN]
  refine Ev.bind (spec_FieldsOk_ev l (by omega) hs) ?_
  cases fieldsB l with
  | false => exact Ev.now _
  | true =>
    simp only [if_true, Option.bind_some, List.nil_append, List.length_nil, Nat.zero_add, if_pos (show l.length < 4398046511104 by omega)]
    exact Ev.now _

def fieldNames : List ByteArray := [(⟨#[116, 105, 116, 108, 101]⟩ : ByteArray), (⟨#[98, 111, 100, 121]⟩ : ByteArray), (⟨#[112, 114, 105, 99, 101]⟩ : ByteArray), (⟨#[99, 111, 108, 111, 114]⟩ : ByteArray), (⟨#[122]⟩ : ByteArray), (⟨#[]⟩ : ByteArray)]

/-- Fields as they are drawn: few, of known names. -/
def drawnF (n : Nat) (l : List S79) : Prop := l.length ≤ n ∧ ∀ f ∈ l, f.f0 ∈ fieldNames

theorem drawnF_size {n : Nat} {l : List S79} (h : drawnF n l) : ∀ f ∈ l, f.f0.size ≤ 1048576 := by
  intro f hf
  have : ∀ x ∈ fieldNames, x.size ≤ 1048576 := by decide
  exact this _ (h.2 f hf)

/-- What a code reads as: at most 2000 bytes. -/
def CodeOk (s : List Int) : Prop := s.length ≤ 2000 ∧ ∀ c ∈ s, 0 ≤ c ∧ c ≤ 255

theorem l1Open_eq (s : List Int) (hb : ∀ c ∈ s, 0 ≤ c ∧ c ≤ 255) : ∃ s', spec_l1Open.f s = some (s', 0) ∧ CodeOk s' := by
  unfold spec_l1Open.f
  by_cases h : (s.length : Int) > 2000
  · rw [if_pos h, if_pos (by omega)]
    exact ⟨_, rfl, by rw [List.length_take]; omega, fun c hc => hb c (List.mem_of_mem_take hc)⟩
  · rw [if_neg h]
    exact ⟨_, rfl, by omega, hb⟩

theorem CodeOk.byte {s : List Int} (h : CodeOk s) (i : Int) : 0 ≤ rd s i ∧ rd s i ≤ 255 := by
  unfold rd
  rw [List.getD_eq_getElem?_getD]
  rcases Nat.lt_or_ge i.toNat s.length with hi | hi
  · rw [List.getElem?_eq_getElem hi]; exact h.2 _ (List.getElem_mem _)
  · rw [List.getElem?_eq_none hi]; simp

theorem tdiv_nn {a b : Int} (ha : 0 ≤ a) (hb : 0 < b) : 0 ≤ Int.tdiv a b ∧ Int.tdiv a b ≤ a := by
  rw [Int.tdiv_eq_ediv_of_nonneg ha]
  exact ⟨Int.ediv_nonneg ha (by omega), Int.ediv_le_self _ ha⟩

theorem tmod_nn {a b : Int} (ha : 0 ≤ a) (hb : 0 < b) : 0 ≤ Int.tmod a b ∧ Int.tmod a b < b := by
  rw [Int.tmod_eq_emod_of_nonneg ha]
  exact ⟨Int.emod_nonneg _ (by omega), Int.emod_lt_of_pos _ hb⟩

theorem xor_i64 (a b : Nat) (ha : a < 2 ^ 62) (hb : b < 2 ^ 62) : ∃ m : Nat, Go.bits .xor .i64 (a : Int) (b : Int) = (m : Int) ∧ m < 2 ^ 62 := by
  have ha' : a % 2 ^ IntKind.i64.bits = a := Nat.mod_eq_of_lt (Nat.lt_of_lt_of_le ha (by decide))
  have hb' : b % 2 ^ IntKind.i64.bits = b := Nat.mod_eq_of_lt (Nat.lt_of_lt_of_le hb (by decide))
  have hx := Nat.xor_lt_two_pow ha hb
  refine ⟨a ^^^ b, ?_, hx⟩
  simp only [Go.bits, BitVec.ofInt_natCast, BitVec.toNat_xor, BitVec.toNat_ofNat, ha', hb']
  rw [IntKind.wrap_i64]
  have : ((a ^^^ b : Nat) : Int) < 4611686018427387904 := by have := hx; omega
  omega

theorem pick_ev (s : List Int) (hs : CodeOk s) (p n : Int) (hp : 0 ≤ p) (hp1 : p ≤ 1000000) (hn : 1 ≤ n) (hn1 : n ≤ 1000000) :
    ∃ r, Ev (fun k => spec_l1Rd_pick.f k s p n) (r, p + 1) ∧ 0 ≤ r ∧ r < n := by
  simp only [spec_l1Rd_pick.f, if_neg (show ¬ n < 1 by omega), wrap_id (x := p + 1) (by omega) (by omega)]
  by_cases h0 : s.length = 0
  · refine ⟨0, Ev.step (fun k => spec_l1Rd_pick.j0.eq_2 _ _ _ _ _) ?_, by omega, by omega⟩
    simp only [show ((s.length : Int) == 0) = true by simp [h0], if_true]
    exact Ev.now _
  · have hl : 0 < (s.length : Int) := by omega
    have hb : ((s.length : Int) == 0) = false := by simp; intro h; exact h0 (by rw [h]; rfl)
    have e1 : wrap64 (p + 1 - 1) = p := by rw [wrap_id (by omega) (by omega)]; omega
    by_cases hlt : p < (s.length : Int)
    · have hc := hs.byte p
      refine ⟨Int.tmod (rd s p) n, Ev.step (fun k => spec_l1Rd_pick.j0.eq_2 _ _ _ _ _) ?_, (tmod_nn hc.1 (by omega)).1, (tmod_nn hc.1 (by omega)).2⟩
      simp only [hb, if_neg (show ¬ (false = true) by decide), e1, if_pos hlt, if_pos hp, if_neg (show ¬ n = 0 by omega), wrap_id (x := rd s p) (by omega) (by omega)]
      exact Ev.now _
    · have m1 := tmod_nn hp hl
      have e2 : wrap64 (wrap64 (p * 7) + 3) = p * 7 + 3 := by rw [wrap_id (x := p * 7) (by omega) (by omega), wrap_id (by omega) (by omega)]
      have m2 := tmod_nn (show 0 ≤ p * 7 + 3 by omega) hl
      have d1 := tdiv_nn hp hl
      obtain ⟨A, hA⟩ : ∃ A, rd s (Int.tmod p (s.length : Int)) = A := ⟨_, rfl⟩
      obtain ⟨B, hB⟩ : ∃ B, rd s (Int.tmod (p * 7 + 3) (s.length : Int)) = B := ⟨_, rfl⟩
      obtain ⟨C, hC⟩ : ∃ C, Int.tdiv p (s.length : Int) = C := ⟨_, rfl⟩
      have a1 := hs.byte (Int.tmod p (s.length : Int)); rw [hA] at a1
      have b1 := hs.byte (Int.tmod (p * 7 + 3) (s.length : Int)); rw [hB] at b1
      rw [hC] at d1
      have v1 : wrap64 (wrap64 (wrap64 (wrap64 (wrap64 A * 131) + wrap64 (wrap64 B * 1117)) + wrap64 (p * 29)) + wrap64 (wrap64 C * 53)) = A * 131 + B * 1117 + p * 29 + C * 53 := by
        rw [wrap_id (x := A) (by omega) (by omega), wrap_id (x := B) (by omega) (by omega), wrap_id (x := C) (by omega) (by omega), wrap_id (x := A * 131) (by omega) (by omega), wrap_id (x := B * 1117) (by omega) (by omega), wrap_id (x := p * 29) (by omega) (by omega), wrap_id (x := C * 53) (by omega) (by omega), wrap_id (x := A * 131 + B * 1117) (by omega) (by omega), wrap_id (x := A * 131 + B * 1117 + p * 29) (by omega) (by omega), wrap_id (by omega) (by omega)]
      obtain ⟨V, hV⟩ : ∃ V : Nat, A * 131 + B * 1117 + p * 29 + C * 53 = (V : Int) := ⟨(A * 131 + B * 1117 + p * 29 + C * 53).toNat, by omega⟩
      have hVb : V < 2 ^ 62 := by have : (2 : Nat) ^ 62 = 4611686018427387904 := by decide
                                  omega
      have hd := tdiv_nn (show 0 ≤ (V : Int) by omega) (show (0 : Int) < 64 by omega)
      obtain ⟨Q, hQ⟩ : ∃ Q : Nat, Int.tdiv (V : Int) 64 = (Q : Int) := ⟨(Int.tdiv (V : Int) 64).toNat, by omega⟩
      have hQb : Q < 2 ^ 62 := by omega
      obtain ⟨m, hm, hmb⟩ := xor_i64 V Q hVb hQb
      have e3 : wrap64 (Int.tdiv (V : Int) 64) = (Q : Int) := by
        have : (2 : Nat) ^ 62 = 4611686018427387904 := by decide
        rw [hQ, wrap_id (by omega) (by omega)]
      have mm := tmod_nn (show 0 ≤ (m : Int) by omega) (show 0 < n by omega)
      refine ⟨Int.tmod (m : Int) n, Ev.step (fun k => spec_l1Rd_pick.j0.eq_2 _ _ _ _ _) ?_, mm.1, mm.2⟩
      simp only [hb, if_neg (show ¬ (false = true) by decide), e1, if_neg hlt, if_neg (show ¬ (s.length : Int) = 0 by omega), if_pos m1.1, if_pos m1.2, e2, if_pos m2.1, if_pos m2.2, if_neg (show ¬ n = 0 by omega), hA, hB, hC, v1, hV, e3, hm]
      exact Ev.now _

def baseFields : List S79 := [⟨(⟨#[116, 105, 116, 108, 101]⟩ : ByteArray), 1, 3⟩, ⟨(⟨#[98, 111, 100, 121]⟩ : ByteArray), 1, 1⟩, ⟨(⟨#[112, 114, 105, 99, 101]⟩ : ByteArray), 2, 0⟩, ⟨(⟨#[99, 111, 108, 111, 114]⟩ : ByteArray), 3, 0⟩]

theorem base_drawn : drawnF 4 baseFields := by
  refine ⟨by decide, fun f hf => ?_⟩
  unfold baseFields at hf
  simp only [List.mem_cons, List.not_mem_nil, or_false] at hf
  unfold fieldNames
  rcases hf with rfl | rfl | rfl | rfl <;> simp

theorem l10Fields_eq : spec_l10Fields.f = some baseFields := rfl

theorem l11Fields_ev (s : List Int) (hs : CodeOk s) (p : Int) (hp : 0 ≤ p) (hp1 : p ≤ 900000) : ∃ r, Ev (fun k => spec_l11Fields.f k s p) (r, p + 1) ∧ drawnF 4 r ∧ 1 ≤ r.length := by
  obtain ⟨x, hx, x0, x1⟩ := pick_ev s hs p 4 hp (by omega) (by omega) (by omega)
  have hl : (baseFields.length : Int) = 4 := rfl
  have n1 : (1 : Int).toNat = 1 := rfl
  simp only [spec_l11Fields.f, l10Fields_eq, Option.bind_some]
  by_cases c0 : x = 0
  · refine ⟨baseFields.take 1, Ev.bind hx ?_, ⟨by decide, fun f hf => base_drawn.2 f (List.mem_of_mem_take hf)⟩, by decide⟩
    simp only [if_pos c0, hl, if_pos (show (1 : Int) ≤ 4 by decide), n1]
    exact Ev.now _
  · by_cases c1 : x = 1
    · refine ⟨baseFields.drop 1, Ev.bind hx ?_, ⟨by decide, fun f hf => base_drawn.2 f (List.mem_of_mem_drop hf)⟩, by decide⟩
      simp only [if_neg c0, if_pos c1, hl, if_pos (show (1 : Int) ≤ 4 by decide), n1]
      exact Ev.now _
    · refine ⟨baseFields, Ev.bind hx ?_, base_drawn, by decide⟩
      simp only [if_neg c0, if_neg c1]
      exact Ev.now _

theorem of_ev (s : List Int) (hs : CodeOk s) (p : Int) (l : List ByteArray) (hp : 0 ≤ p) (hp1 : p ≤ 1000000) (hl : 1 ≤ l.length) (hl1 : l.length ≤ 1000000) :
    ∃ r, Ev (fun k => spec_l1Rd_of.f k s p l) (r, p + 1) ∧ r ∈ l := by
  obtain ⟨i, hi, h0, h1⟩ := pick_ev s hs p (l.length : Int) hp hp1 (by omega) (by omega)
  obtain ⟨j, rfl⟩ : ∃ j : Nat, i = (j : Int) := ⟨i.toNat, by omega⟩
  refine ⟨l[j]'(by omega), ?_, List.getElem_mem _⟩
  simp only [spec_l1Rd_of.f]
  refine Ev.bind hi ?_
  simp only [if_pos h0, if_pos h1, rdOf_get _ l j (by omega)]
  exact Ev.now _

theorem one_ev (s : List Int) (hs : CodeOk s) (p : Int) (l : List Int) (hp : 0 ≤ p) (hp1 : p ≤ 1000000) (hl : 1 ≤ l.length) (hl1 : l.length ≤ 1000000) :
    ∃ r, Ev (fun k => spec_l1Rd_one.f k s p l) (r, p + 1) ∧ r ∈ l := by
  obtain ⟨i, hi, h0, h1⟩ := pick_ev s hs p (l.length : Int) hp hp1 (by omega) (by omega)
  obtain ⟨j, rfl⟩ : ∃ j : Nat, i = (j : Int) := ⟨i.toNat, by omega⟩
  refine ⟨l[j]'(by omega), ?_, List.getElem_mem _⟩
  simp only [spec_l1Rd_one.f]
  refine Ev.bind hi ?_
  simp only [if_pos h0, if_pos h1, rd_get l j (by omega)]
  exact Ev.now _

theorem l11AnyFields_ev (s : List Int) (hs : CodeOk s) (p : Int) (hp : 0 ≤ p) (hp1 : p ≤ 800000) : ∃ r q, Ev (fun k => spec_l11AnyFields.f k s p) (r, q) ∧ p ≤ q ∧ q ≤ p + 5 ∧ drawnF 5 r := by
  obtain ⟨r, hr, hd, hl1⟩ := l11Fields_ev s hs p hp (by omega)
  obtain ⟨x, hx, x0, x1⟩ := pick_ev s hs (p + 1) 12 (by omega) (by omega) (by omega) (by omega)
  have hl := hd.1
  simp only [spec_l11AnyFields.f, Option.bind_some, List.nil_append, List.length_nil, Nat.zero_add]
  have st : ∀ (R : List S79 × Int), Ev (fun k => (spec_l1Rd_pick.f k s (p + 1) 12).bind fun bt287 => (if bt287.1 = 0 then ((spec_l1Rd_of.f k s bt287.2 (([(⟨#[116, 105, 116, 108, 101]⟩ : ByteArray), (⟨#[122]⟩ : ByteArray), (⟨#[]⟩ : ByteArray)] : List ByteArray))).bind fun bt292 => ((spec_l1Rd_pick.f k s bt292.2 5).bind fun bt294 => ((spec_l1Rd_pick.f k s bt294.2 11).bind fun bt296 => (if r.length < 4398046511104 then (some ((r ++ [(⟨bt292.1, bt294.1, bt296.1⟩ : S79)]), bt296.2)) else (none))))) else (if bt287.1 = 1 then ((spec_l1Rd_one.f k s bt287.2 (([0, 9, 10] : List Int))).bind fun bt304 => (if 0 < (r.length : Int) then (some ((r.set (0 : Int).toNat (⟨(rd_T79 r 0).f0, (rd_T79 r 0).f1, bt304.1⟩ : S79)), bt304.2)) else (none))) else (if bt287.1 = 2 then (some (([] : List (S79)), bt287.2)) else (some (r, bt287.2)))))) R →
      Ev (fun k => (spec_l11Fields.f k s p).bind fun bt280 => (if bt280.1.length < 4398046511104 then ((spec_l1Rd_pick.f k s bt280.2 12).bind fun bt287 => (if bt287.1 = 0 then ((spec_l1Rd_of.f k s bt287.2 (([(⟨#[116, 105, 116, 108, 101]⟩ : ByteArray), (⟨#[122]⟩ : ByteArray), (⟨#[]⟩ : ByteArray)] : List ByteArray))).bind fun bt292 => ((spec_l1Rd_pick.f k s bt292.2 5).bind fun bt294 => ((spec_l1Rd_pick.f k s bt294.2 11).bind fun bt296 => (if bt280.1.length < 4398046511104 then (some ((bt280.1 ++ [(⟨bt292.1, bt294.1, bt296.1⟩ : S79)]), bt296.2)) else (none))))) else (if bt287.1 = 1 then ((spec_l1Rd_one.f k s bt287.2 (([0, 9, 10] : List Int))).bind fun bt304 => (if 0 < (bt280.1.length : Int) then (some ((bt280.1.set (0 : Int).toNat (⟨(rd_T79 bt280.1 0).f0, (rd_T79 bt280.1 0).f1, bt304.1⟩ : S79)), bt304.2)) else (none))) else (if bt287.1 = 2 then (some (([] : List (S79)), bt287.2)) else (some (bt280.1, bt287.2)))))) else (none))) R := by
    intro R hR
    refine Ev.bind hr ?_
    simp only [if_pos (show r.length < 4398046511104 by omega)] at hR ⊢
    exact hR
  by_cases c0 : x = 0
  · obtain ⟨a, ha, ham⟩ := of_ev s hs (p + 1 + 1) (([(⟨#[116, 105, 116, 108, 101]⟩ : ByteArray), (⟨#[122]⟩ : ByteArray), (⟨#[]⟩ : ByteArray)] : List ByteArray)) (by omega) (by omega) (by decide) (by decide)
    obtain ⟨b, hb, b0, b1⟩ := pick_ev s hs (p + 1 + 1 + 1) 5 (by omega) (by omega) (by omega) (by omega)
    obtain ⟨c, hc, e0, e1⟩ := pick_ev s hs (p + 1 + 1 + 1 + 1) 11 (by omega) (by omega) (by omega) (by omega)
    refine ⟨r ++ [⟨a, b, c⟩], p + 1 + 1 + 1 + 1 + 1, st _ (Ev.bind hx ?_), by omega, by omega, by simp; omega, fun f hf => ?_⟩
    · simp only [if_pos c0]
      refine Ev.bind ha (Ev.bind hb (Ev.bind hc ?_))
      simp only [if_pos (show r.length < 4398046511104 by omega)]
      exact Ev.now _
    · rcases List.mem_append.1 hf with h | h
      · exact hd.2 f h
      · rw [List.mem_singleton.1 h]
        have hsub : ∀ x ∈ (([(⟨#[116, 105, 116, 108, 101]⟩ : ByteArray), (⟨#[122]⟩ : ByteArray), (⟨#[]⟩ : ByteArray)] : List ByteArray)), x ∈ fieldNames := by
          intro x hx
          simp only [List.mem_cons, List.not_mem_nil, or_false] at hx
          unfold fieldNames
          rcases hx with rfl | rfl | rfl <;> simp
        exact hsub a ham
  · by_cases c1 : x = 1
    · obtain ⟨a, ha, ham⟩ := one_ev s hs (p + 1 + 1) ([0, 9, 10] : List Int) (by omega) (by omega) (by decide) (by decide)
      have h0 := rdi_Field r 0 (by omega)
      refine ⟨r.set 0 ⟨(r[0]'(by omega)).f0, (r[0]'(by omega)).f1, a⟩, p + 1 + 1 + 1, st _ (Ev.bind hx ?_), by omega, by omega, by simp; omega, fun f hf => ?_⟩
      · simp only [if_neg c0, if_pos c1]
        refine Ev.bind ha ?_
        have n0 : (0 : Int).toNat = 0 := rfl
        have h0' : rd_T79 r 0 = r[0]'(by omega) := h0
        simp only [if_pos (show 0 < (r.length : Int) by omega), n0, h0']
        exact Ev.now _
      · rcases List.mem_or_eq_of_mem_set hf with h | h
        · exact hd.2 f h
        · rw [h]; exact hd.2 (r[0]'(by omega)) (List.getElem_mem (show 0 < r.length by omega))
    · by_cases c2 : x = 2
      · refine ⟨[], p + 1 + 1, st _ (Ev.bind hx ?_), by omega, by omega, by simp, fun f hf => by simp at hf⟩
        simp only [if_neg c0, if_neg c1, if_pos c2]
        exact Ev.now _
      · refine ⟨r, p + 1 + 1, st _ (Ev.bind hx ?_), by omega, by omega, by omega, hd.2⟩
        simp only [if_neg c0, if_neg c1, if_neg c2]
        exact Ev.now _

theorem u8_range {l : List Int} (h : ∀ x ∈ l, (Lit.int .u8 x).wf = true) : ∀ c ∈ l, 0 ≤ c ∧ c ≤ 255 := by
  intro c hc
  have := h c hc
  simp [Lit.wf, IntKind.min, IntKind.max, IntKind.bits, IntKind.signed] at this
  omega

theorem DrawIndexNew_ev (l : List Int) (h : ∀ x ∈ l, (Lit.int .u8 x).wf = true) : ∃ r, Ev (fun k => spec_DrawIndexNew.f k l) r ∧ drawnF 5 r := by
  obtain ⟨s', h1, hs⟩ := l1Open_eq l (u8_range h)
  obtain ⟨r, q, hr, q0, q1, q2⟩ := l11AnyFields_ev s' hs 0 (by omega) (by omega)
  refine ⟨r, ?_, q2⟩
  simp only [spec_DrawIndexNew.f, h1, Option.bind_some]
  exact Ev.bind hr (Ev.now _)

open Classical in
theorem sdFields_l0 (a b : List S79) (hn : a.length < 4611686018427387904) (hl : a.length = b.length) : ∀ (d i : Nat), i + d = a.length → a = b → Ev (fun k => laws_sdFields.l0 k a b (i : Int)) true := by
  intro d
  induction d with
  | zero =>
    intro i hi hab
    refine Ev.step (fun k => laws_sdFields.l0.eq_2 _ _ _ _) ?_
    simp only [if_neg (show ¬ ((i : Int) < (a.length : Int)) by omega)]
    exact Ev.now _
  | succ d ih =>
    intro i hi hab
    subst hab
    refine Ev.step (fun k => laws_sdFields.l0.eq_2 _ _ _ _) ?_
    simp only [if_pos (show ((i : Int) < (a.length : Int)) by omega), if_pos (show 0 ≤ (i : Int) by omega), beq_self_eq_true, Bool.not_true, Bool.or_self, if_neg (show ¬ (false = true) by decide), wsucc i (by omega)]
    exact ih (i + 1) (by omega) rfl

theorem sdFields_refl (a : List S79) (hn : a.length < 4611686018427387904) : Ev (fun k => laws_sdFields.f k a a) true := by
  simp only [laws_sdFields.f, if_true]
  exact sdFields_l0 a a hn rfl a.length 0 (by omega) rfl

theorem sdIndex_same (G : List S79) (hG : G.length ≤ 4) : Ev (fun k => laws_sdIndex.f k G [] [] 0 G [] [] 0) true := by
  simp only [laws_sdIndex.f]
  refine Ev.bind (sdFields_refl G (by omega)) ?_
  simp only [if_true, bne_self_eq_false]
  refine Ev.step (fun k => laws_sdIndex.j0.eq_2 _ _ _ _ _ _ _ _ _ _) ?_
  simp only [if_neg (show ¬ (false = true) by decide)]
  refine Ev.step (fun k => laws_sdIndex.l0.eq_2 _ _ _ _ _ _ _ _ _ _) ?_
  simp only [List.length_nil, if_neg (show ¬ ((0 : Int) < ((0 : Nat) : Int)) by decide)]
  refine Ev.step (fun k => laws_sdIndex.l1.eq_2 _ _ _ _ _ _ _ _ _ _) ?_
  simp only [List.length_nil, if_neg (show ¬ ((0 : Int) < ((0 : Nat) : Int)) by decide)]
  exact Ev.now _

theorem FnIndexNew : laws_FnIndexNew.PureX := by
  intro l0 hw0
  refine Ev.rounds (g := fun k => laws_FnIndexNew.f k l0) ?_
  simp only [laws_FnIndexNew.f]
  by_cases hg : (l0.length : Int) > 1048576
  · simp only [if_pos hg]; exact Ev.now _
  simp only [if_neg hg]
  obtain ⟨F, hd, hdr⟩ := DrawIndexNew_ev l0 hw0.2
  have hF5 := hdr.1
  have hsz := drawnF_size hdr
  have h1 := spec_IndexNew_ev F (by omega) hsz
  have h2 := impl_IndexNew_ev F (by omega) hsz
  refine Ev.bind hd ?_
  refine Ev.bind h2 ?_
  refine Ev.bind h1 ?_
  have hF := impl_FieldsOk_ev F (by omega) hsz
  simp only [bne_self_eq_false, if_neg (show ¬ (false = true) by decide)]
  unfold idxN
  cases hf : fieldsB F with
  | true =>
    rw [hf] at hF
    simp only [if_true]
    have hs := sdIndex_same F (fieldsB_iff.1 hf).2.2
    refine Ev.bind hs ?_
    simp only [if_true, Bool.not_true]
    refine Ev.step (fun k => laws_FnIndexNew.j0.eq_2 _ _ _ _ _ _ _ _ _ _ _ _) ?_
    simp only [if_neg (show ¬ (false = true) by decide)]
    have hx : Ev (fun k => impl_IndexOk.f k F [] [] 0) true := by
      simp only [impl_IndexOk.f, if_true]
      exact Ev.bind hF (Ev.now _)
    refine Ev.bind hx ?_
    have e0 : wrap64 (((0 : Nat) : Int) + ((0 : Nat) : Int)) = 0 := wrap_id (by decide) (by decide)
    have e1 : wrap64 ((0 : Int) + 0) = 0 := wrap_id (by decide) (by decide)
    have e : (wrap64 (wrap64 (((0 : Nat) : Int) + ((0 : Nat) : Int)) + 0) == 0) = true := by rw [e0, e1]; rfl
    simp only [if_true, List.length_nil, e]
    exact Ev.now _
  | false =>
    simp only [if_neg (show ¬ (false = true) by decide)]
    have hs := sdIndex_same [] (by simp)
    refine Ev.bind hs ?_
    simp only [if_true, Bool.not_false]
    refine Ev.step (fun k => laws_FnIndexNew.j0.eq_2 _ _ _ _ _ _ _ _ _ _ _ _) ?_
    simp only [if_true, beq_self_eq_true]
    exact Ev.bind hs (Ev.now _)

end Go.Proofs.YtelcdhjdlgedeaaGreatDoor.Pure
