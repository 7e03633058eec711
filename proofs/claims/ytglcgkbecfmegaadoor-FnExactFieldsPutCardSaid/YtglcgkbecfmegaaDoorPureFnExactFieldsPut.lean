/- The plain law of FnExactFieldsPut: whatever the input, the printed function of this law answers true after enough rounds; conditions: only the sizes and kinds that the law's Pure states. -/
import Derived.Test.YtglcgkbecfmegaaDoorSFnExactFieldsPut
namespace Go.Proofs.YtglcgkbecfmegaaDoor.Pure
open Go.RowKit Go.Proofs.YtglcgkbecfmegaaDoor.PFnExactFieldsPut Go.Proofs.YtglcgkbecfmegaaDoorW.PrintWords Go.Proofs.YtglcgkbecfmegaaDoorW.PrintLast Go.Proofs.YtglcgkbecfmegaaDoorW.PrintMore
set_option linter.unusedVariables false
set_option linter.unusedSimpArgs false

def fieldP (f : S32) : Prop := (f.f1 = 1 ∧ 1 ≤ f.f2 ∧ f.f2 ≤ 9) ∨ (2 ≤ f.f1 ∧ f.f1 ≤ 3 ∧ f.f2 = 0)

def digP (c : Int) : Prop := 48 ≤ c ∧ c ≤ 57
instance (c : Int) : Decidable (digP c) := by unfold digP; infer_instance

def lowP (c : Int) : Prop := 97 ≤ c ∧ c ≤ 122
instance (c : Int) : Decidable (lowP c) := by unfold lowP; infer_instance

def nameFrom (l : List Int) (j : Nat) : Prop := (∀ (i : Nat) (h : i < l.length), j ≤ i → lowP l[i] ∨ (0 < i ∧ digP l[i])) ∧ 1 ≤ l.length ∧ l.length ≤ 8

def fieldsFrom (l : List S32) (j : Nat) : Prop := (∀ (i : Nat) (h : i < l.length), j ≤ i → nameFrom (bytesOf l[i].f0) 0 ∧ fieldP l[i] ∧ ∀ m (hm : m < i), l[m].f0 ≠ l[i].f0) ∧ 1 ≤ l.length ∧ l.length ≤ 4

open Classical in
noncomputable def fieldsB (l : List S32) : Bool := decide (fieldsFrom l 0)

def decN (u : Nat) : ByteArray := ⟨(Lib.decDigits u).toArray⟩

/-- A field as a text. -/
def fieldT (f : S32) : ByteArray := if f.f1 = 1 then (f.f0 ++ (⟨#[58, 116, 101, 120, 116, 58]⟩ : ByteArray)) ++ decN f.f2.toNat else if f.f1 = 2 then f.f0 ++ (⟨#[58, 110, 117, 109]⟩ : ByteArray) else f.f0 ++ (⟨#[58, 116, 97, 103]⟩ : ByteArray)

def sp : ByteArray := ⟨#[32]⟩

def joinT (xs : List ByteArray) (sep : ByteArray) : ByteArray := ⟨(Lib.join (xs.map (·.data.toList)) sep.data.toList).toArray⟩

noncomputable def fieldsPutB (l : List S32) : ByteArray := if fieldsB l = true then joinT (l.map fieldT) sp else ⟨#[]⟩

open Classical in
theorem fieldsB_iff {l : List S32} : fieldsB l = true ↔ fieldsFrom l 0 := by unfold fieldsB; exact decide_eq_true_iff

def goodField (f : S32) : Prop := fieldP f ∧ f.f0.size ≤ 8

theorem good_of_fields {l : List S32} (h : fieldsB l = true) : (∀ x ∈ l, goodField x) ∧ l.length ≤ 4 := by
  have h1 := fieldsB_iff.1 h
  refine ⟨fun x hx => ?_, h1.2.2⟩
  obtain ⟨i, hi, rfl⟩ := List.mem_iff_getElem.1 hx
  have h2 := h1.1 i hi (Nat.zero_le _)
  refine ⟨h2.2.1, ?_⟩
  have h3 := h2.1.2.2
  rw [bytesOf_length] at h3; exact h3

theorem decDigits_length (u : Nat) : (Lib.decDigits u).length = Lib.nDigits u := by rw [Lib.decDigits_eq, List.length_map, List.length_range]

theorem decN_size (u : Nat) : (decN u).size = Lib.nDigits u := by rw [← decDigits_length]; rfl

theorem nDigits_le : ∀ (k u : Nat), u < 10 ^ (k + 1) → Lib.nDigits u ≤ k + 1
  | 0, u, h => by rw [Lib.nDigits_small (by simpa using h)]; exact Nat.le_refl _
  | k + 1, u, h => by
    by_cases h1 : u < 10
    · rw [Lib.nDigits_small h1]; omega
    · rw [Lib.nDigits_big h1]
      have := nDigits_le k (u / 10) (by rw [Nat.pow_succ] at h; omega)
      omega

theorem decN_size_le (u : Nat) (h : u < 10 ^ 19) : (decN u).size ≤ 19 := by rw [decN_size]; exact nDigits_le 18 u h

theorem fieldT_size (f : S32) (h : goodField f) : (fieldT f).size ≤ 33 := by
  have h2 := h.2
  have z6 : (⟨#[58, 116, 101, 120, 116, 58]⟩ : ByteArray).size = 6 := rfl
  have z4 : (⟨#[58, 110, 117, 109]⟩ : ByteArray).size = 4 := rfl
  have z5 : (⟨#[58, 116, 97, 103]⟩ : ByteArray).size = 4 := rfl
  unfold fieldT
  split
  · have hp := h.1
    unfold fieldP at hp
    have := decN_size_le f.f2.toNat (by omega)
    rw [ByteArray.size_append, ByteArray.size_append, z6]; omega
  · split
    · rw [ByteArray.size_append, z4]; omega
    · rw [ByteArray.size_append, z5]; omega

theorem rdi_Field (l : List S32) (j : Nat) (h : j < l.length) : rd_T32 l (j : Int) = l[j] := by
  unfold rd_T32; simp [List.getD_eq_getElem?_getD, List.getElem?_eq_getElem h]

theorem drop_get {α : Type} (l : List α) (j : Nat) (h : j < l.length) : l.drop j = l[j] :: l.drop (j + 1) := List.drop_eq_getElem_cons h

theorem wrap_id {x : Int} (h0 : -9223372036854775808 ≤ x) (h1 : x ≤ 9223372036854775807) : wrap64 x = x := by unfold wrap64; omega

theorem wsucc (j : Nat) (h : j < 9223372036854775807) : wrap64 ((j : Int) + 1) = ((j + 1 : Nat) : Int) := by rw [wrap_id (by omega) (by omega)]; omega

theorem Itoa_eq (u : Nat) (hu : u ≤ 9223372036854775807) : strconv_Itoa.f (u : Int) = some (decN u) := by
  unfold strconv_Itoa.f
  rw [if_pos ⟨by omega, by omega⟩]
  unfold Lib.itoa
  rw [if_neg (by omega), Int.toNat_natCast]; rfl

theorem lens_le (m : Nat) : ∀ (xs : List ByteArray), (∀ x ∈ xs, x.size ≤ m) → Lib.lens (xs.map (·.data.toList)) ≤ m * xs.length
  | [], _ => by simp [Lib.lens]
  | x :: xs, h => by
    have h1 := lens_le m xs (fun y hy => h y (List.mem_cons_of_mem _ hy))
    have h2 := h x (List.mem_cons_self ..)
    have h3 : x.data.toList.length = x.size := rfl
    simp only [Lib.lens, List.map_cons, List.sum_cons, List.length_cons] at h1 ⊢
    rw [Nat.mul_succ]; omega

theorem Join_eq (xs : List ByteArray) (sep : ByteArray) (hl : xs.length ≤ 1000000) (hx : ∀ x ∈ xs, x.size ≤ 1000000) (hs : sep.size ≤ 10) : strings_Join.f xs sep = some (joinT xs sep) := by
  unfold strings_Join.f
  have hb : (Lib.join (xs.map (·.data.toList)) sep.data.toList).length ≤ 140737488355328 := by
    cases xs with
    | nil => simp [Lib.join_nil]
    | cons x xs =>
      rw [List.map_cons, Lib.join_cons, List.length_append, Lib.joinTail_length, List.length_map]
      have h1 := lens_le 1000000 xs (fun y hy => hx y (List.mem_cons_of_mem _ hy))
      have h2 := hx x (List.mem_cons_self ..)
      have h3 : x.data.toList.length = x.size := rfl
      have h4 : sep.data.toList.length = sep.size := rfl
      have h5 : sep.data.toList.length * xs.length ≤ 10 * xs.length := Nat.mul_le_mul_right _ (by omega)
      simp only [List.length_cons] at hl
      omega
  rw [if_pos ⟨by omega, hb⟩]; rfl

theorem impl_FieldsPut_l0 (l : List S32) (hn : l.length ≤ 4) (hg : ∀ x ∈ l, goodField x) : ∀ (d i : Nat) (acc : List ByteArray), i + d = l.length → acc.length ≤ i → (∀ x ∈ acc, x.size ≤ 33) →
    Ev (fun k => impl_FieldsPut.l0 k acc l (l.length : Int) (i : Int)) (joinT (acc ++ (l.drop i).map fieldT) sp) := by
  intro d
  induction d with
  | zero =>
    intro i acc hi ha hs
    refine Ev.step (fun k => impl_FieldsPut.l0.eq_2 _ _ _ _ _) ?_
    have hj := Join_eq acc sp (by omega) (fun x hx => by have := hs x hx; omega) (by decide)
    simp only [if_neg (show ¬ ((i : Int) < (l.length : Int)) by omega), show strings_Join.f acc (⟨#[32]⟩ : ByteArray) = some (joinT acc sp) from hj, Option.bind_some]
    rw [List.drop_eq_nil_of_le (by omega), List.map_nil, List.append_nil]; exact Ev.now _
  | succ d ih =>
    intro i acc hi ha hs
    have hgi := hg l[i] (List.getElem_mem _)
    have h2 := hgi.2
    have hz := fieldT_size l[i] hgi
    have hx := ih (i + 1) (acc ++ [fieldT l[i]]) (by omega) (by simp; omega) (fun x hx => by
      rcases List.mem_append.1 hx with h1 | h1
      · exact hs x h1
      · rw [List.mem_singleton.1 h1]; exact hz)
    rw [List.append_assoc] at hx
    have hq := hgi.1
    unfold fieldP at hq
    refine Ev.step (fun k => impl_FieldsPut.l0.eq_2 _ _ _ _ _) ?_
    rw [drop_get l i (by omega), List.map_cons]
    simp only [if_pos (show ((i : Int) < (l.length : Int)) by omega), if_pos (show 0 ≤ (i : Int) by omega), rdi_Field l i (by omega), wsucc i (by omega), if_pos (show acc.length < 8796093022208 by omega), if_pos (show l[i].f0.size + 6 ≤ 9223372036854775807 by omega), if_pos (show l[i].f0.size + 4 ≤ 9223372036854775807 by omega)]
    by_cases e1 : l[i].f1 = 1
    · have hi2 : strconv_Itoa.f l[i].f2 = some (decN l[i].f2.toNat) := by
        have := Itoa_eq l[i].f2.toNat (by omega)
        rwa [show ((l[i].f2.toNat : Nat) : Int) = l[i].f2 by omega] at this
      have hzd := decN_size_le l[i].f2.toNat (by omega)
      have z6 : (l[i].f0 ++ (⟨#[58, 116, 101, 120, 116, 58]⟩ : ByteArray)).size = l[i].f0.size + 6 := ByteArray.size_append
      have et : fieldT l[i] = (l[i].f0 ++ (⟨#[58, 116, 101, 120, 116, 58]⟩ : ByteArray)) ++ decN l[i].f2.toNat := by unfold fieldT; rw [if_pos e1]
      simp only [if_pos e1, hi2, Option.bind_some, z6, if_pos (show l[i].f0.size + 6 + (decN l[i].f2.toNat).size ≤ 9223372036854775807 by omega)]
      rw [← et]; exact hx
    · simp only [if_neg e1]
      by_cases e2 : l[i].f1 = 2
      · have et : fieldT l[i] = l[i].f0 ++ (⟨#[58, 110, 117, 109]⟩ : ByteArray) := by unfold fieldT; rw [if_neg e1, if_pos e2]
        simp only [if_pos e2]
        rw [← et]; exact hx
      · have et : fieldT l[i] = l[i].f0 ++ (⟨#[58, 116, 97, 103]⟩ : ByteArray) := by unfold fieldT; rw [if_neg e1, if_neg e2]
        simp only [if_neg e2]
        rw [← et]; exact hx

theorem fieldsFrom_end {l : List S32} {j : Nat} (hj : l.length ≤ j) : fieldsFrom l j ↔ 1 ≤ l.length ∧ l.length ≤ 4 := ⟨fun h => h.2, fun h => ⟨fun i hi hji => by omega, h⟩⟩

theorem fieldsFrom_step {l : List S32} {j : Nat} (hj : j < l.length) : fieldsFrom l j ↔ (nameFrom (bytesOf l[j].f0) 0 ∧ fieldP l[j] ∧ ∀ m (hm : m < j), l[m].f0 ≠ l[j].f0) ∧ fieldsFrom l (j + 1) := by
  constructor
  · rintro ⟨h, h2⟩
    exact ⟨h j hj (Nat.le_refl _), fun i hi hji => h i hi (by omega), h2⟩
  · rintro ⟨h, h1, h2⟩
    refine ⟨fun i hi hji => ?_, h2⟩
    rcases Nat.lt_or_ge j i with hlt | hge
    · exact h1 i hi hlt
    · obtain rfl : i = j := by omega
      exact h

open Classical in
noncomputable def nameB (l : List Int) : Bool := decide (nameFrom l 0)

open Classical in
theorem nameB_iff {l : List Int} : nameB l = true ↔ nameFrom l 0 := by unfold nameB; exact decide_eq_true_iff

theorem ev_eq {α : Type} {g : Nat → Option α} {r : α} (h : ∀ k, g k = some r) : Ev g r := ⟨0, fun k _ => h k⟩

theorem ev_false {g : Nat → Option Bool} {p : Prop} [Decidable p] (h : ¬ p) (k : Ev g false) : Ev g (decide p) := by
  rw [decide_eq_false h]; exact k

theorem ev_prop {g : Nat → Option Bool} {p q : Prop} [Decidable p] [Decidable q] (h : p ↔ q) (k : Ev g (decide p)) : Ev g (decide q) := by
  have : decide p = decide q := decide_eq_decide.2 h
  rw [← this]; exact k

theorem nameFrom_end {l : List Int} {j : Nat} (hj : l.length ≤ j) : nameFrom l j ↔ 1 ≤ l.length ∧ l.length ≤ 8 := ⟨fun h => h.2, fun h => ⟨fun i hi hji => by omega, h⟩⟩

theorem nameFrom_step {l : List Int} {j : Nat} (hj : j < l.length) : nameFrom l j ↔ (lowP l[j] ∨ (0 < j ∧ digP l[j])) ∧ nameFrom l (j + 1) := by
  constructor
  · rintro ⟨h, h2⟩
    exact ⟨h j hj (Nat.le_refl _), fun i hi hji => h i hi (by omega), h2⟩
  · rintro ⟨h, h1, h2⟩
    refine ⟨fun i hi hji => ?_, h2⟩
    rcases Nat.lt_or_ge j i with hlt | hge
    · exact h1 i hi hlt
    · obtain rfl : i = j := by omega
      exact h

theorem rd_get (l : List Int) (j : Nat) (h : j < l.length) : rd l (j : Int) = l[j] := by
  unfold rd; simp [List.getD_eq_getElem?_getD, List.getElem?_eq_getElem h]

theorem bt_get (s : ByteArray) (j : Nat) (h : j < (bytesOf s).length) : bt s (j : Int) = (bytesOf s)[j] := by
  rw [← rd_bytesOf, rd_get _ _ h]

theorem impl_digit_eq (a : Int) : impl_digit.f a = some (decide (digP a)) := by
  unfold impl_digit.f digP
  by_cases h : a ≥ 48
  · rw [if_pos h]; congr 1; exact decide_eq_decide.2 (by omega)
  · rw [if_neg h]; congr 1; symm; exact decide_eq_false (by omega)

theorem impl_lower_eq (a : Int) : impl_lower.f a = some (decide (lowP a)) := by
  unfold impl_lower.f lowP
  by_cases h : a ≥ 97
  · rw [if_pos h]; congr 1; exact decide_eq_decide.2 (by omega)
  · rw [if_neg h]; congr 1; symm; exact decide_eq_false (by omega)

theorem impl_within_eq (a b c : Int) : impl_within.f a b c = some (decide (b ≤ a ∧ a ≤ c)) := by
  unfold impl_within.f
  by_cases h : a ≥ b
  · rw [if_pos h]; congr 1; exact decide_eq_decide.2 ⟨fun h2 => ⟨h, h2⟩, fun h2 => h2.2⟩
  · rw [if_neg h]; congr 1; symm; exact decide_eq_false (fun h2 => h h2.1)

open Classical in
theorem impl_NameOk_l0 (s : ByteArray) (hn : s.size < 4611686018427387904) : ∀ (d i : Nat), i + d = s.size → Ev (fun k => impl_NameOk.l0 k s (s.size : Int) (i : Int)) (decide (nameFrom (bytesOf s) i)) := by
  have hb := bytesOf_length s
  intro d
  induction d with
  | zero =>
    intro i hi
    refine Ev.step (fun k => impl_NameOk.l0.eq_2 _ _ _ _) ?_
    simp only [if_neg (show ¬ ((i : Int) < (s.size : Int)) by omega), impl_within_eq, Option.bind_some]
    refine ev_prop (nameFrom_end (by omega)).symm ?_
    refine ev_eq fun _ => ?_
    congr 1; exact decide_eq_decide.2 (by omega)
  | succ d ih =>
    intro i hi
    have hs := nameFrom_step (l := bytesOf s) (j := i) (by omega)
    refine Ev.step (fun k => impl_NameOk.l0.eq_2 _ _ _ _) ?_
    simp only [if_pos (show ((i : Int) < (s.size : Int)) by omega), if_pos (show 0 ≤ (i : Int) by omega), wsucc i (by omega), bt_get s i (by omega), impl_lower_eq, impl_digit_eq, Option.bind_some, decide_eq_true_eq]
    by_cases h1 : lowP (bytesOf s)[i]
    · simp only [if_pos h1]
      exact ev_prop (hs.trans ⟨fun h => h.2, fun h => ⟨.inl h1, h⟩⟩).symm (ih (i + 1) (by omega))
    · simp only [if_neg h1]
      by_cases h0 : (i : Int) = 0
      · simp only [if_pos h0]
        have : decide (nameFrom (bytesOf s) i) = false := decide_eq_false (fun h => by rcases (hs.1 h).1 with h2 | h2; exact h1 h2; omega)
        rw [this]; exact Ev.now _
      · simp only [if_neg h0]
        by_cases h2 : digP (bytesOf s)[i]
        · simp only [if_pos h2]
          exact ev_prop (hs.trans ⟨fun h => h.2, fun h => ⟨.inr ⟨by omega, h2⟩, h⟩⟩).symm (ih (i + 1) (by omega))
        · simp only [if_neg h2]
          have : decide (nameFrom (bytesOf s) i) = false := decide_eq_false (fun h => by rcases (hs.1 h).1 with h3 | h3; exact h1 h3; exact h2 h3.2)
          rw [this]; exact Ev.now _

theorem impl_NameOk_ev (s : ByteArray) (hn : s.size < 4611686018427387904) : Ev (fun k => impl_NameOk.f k s) (nameB (bytesOf s)) := impl_NameOk_l0 s hn s.size 0 (by omega)

theorem mem_drop_step {α : Type} {l : List α} {j : Nat} {n : α} (h : j < l.length) : n ∈ l.drop j ↔ n = l[j] ∨ n ∈ l.drop (j + 1) := by
  rw [List.drop_eq_getElem_cons h, List.mem_cons]

theorem toList_data (s : ByteArray) : s.toList = s.data.toList := by
  exact ByteArray.toList_eq s

theorem toList_inj {a b : ByteArray} : a.toList = b.toList ↔ a = b := by
  rw [toList_data, toList_data]
  constructor
  · intro h; exact ByteArray.ext (Array.toList_inj.1 h)
  · rintro rfl; rfl

theorem rdOf_get {α : Type} (d : α) (l : List α) (j : Nat) (h : j < l.length) : rdOf d l (j : Int) = l[j] := by
  unfold rdOf; simp [List.getD_eq_getElem?_getD, List.getElem?_eq_getElem h]

theorem rdOf_str (l : List ByteArray) (j : Nat) (h : j < l.length) : rdOf ByteArray.empty l (j : Int) = l[j] := rdOf_get _ l j h

open Classical in
theorem slices_Index_string_string_l0 (l : List ByteArray) (n : ByteArray) (hn : l.length < 4611686018427387904) : ∀ (d i : Nat), i + d = l.length → ∃ r : Int, Ev (fun k => slices_Index_string_string.l0 k l n (l.length : Int) (i : Int)) r ∧ decide (r ≥ 0) = decide (n ∈ l.drop i) := by
  intro d
  induction d with
  | zero =>
    intro i hi
    refine ⟨-1, Ev.step (fun k => slices_Index_string_string.l0.eq_2 _ _ _ _ _) ?_, ?_⟩
    · simp only [if_neg (show ¬ ((i : Int) < (l.length : Int)) by omega)]
      exact Ev.now _
    · rw [List.drop_of_length_le (by omega)]; simp
  | succ d ih =>
    intro i hi
    have hs := mem_drop_step (l := l) (n := n) (show i < l.length by omega)
    by_cases h : n = l[i]
    · refine ⟨(i : Int), Ev.step (fun k => slices_Index_string_string.l0.eq_2 _ _ _ _ _) ?_, ?_⟩
      · simp only [if_pos (show ((i : Int) < (l.length : Int)) by omega), if_pos (show 0 ≤ (i : Int) by omega), rdOf_str l i (by omega), toList_inj, if_pos h]
        exact Ev.now _
      · rw [decide_eq_true (hs.2 (.inl h))]; simp
    · obtain ⟨r, h1, h2⟩ := ih (i + 1) (by omega)
      refine ⟨r, Ev.step (fun k => slices_Index_string_string.l0.eq_2 _ _ _ _ _) ?_, ?_⟩
      · simp only [if_pos (show ((i : Int) < (l.length : Int)) by omega), if_pos (show 0 ≤ (i : Int) by omega), rdOf_str l i (by omega), toList_inj, if_neg h, wsucc i (by omega)]
        exact h1
      · rw [h2]; exact decide_eq_decide.2 (hs.trans ⟨fun h1 => h1.resolve_left h, .inr⟩).symm

open Classical in
theorem slices_Contains_string_string_ev (l : List ByteArray) (n : ByteArray) (hn : l.length < 4611686018427387904) : Ev (fun k => slices_Contains_string_string.f k l n) (decide (n ∈ l)) := by
  obtain ⟨r, h1, h2⟩ := slices_Index_string_string_l0 l n hn l.length 0 (by omega)
  simp only [slices_Contains_string_string.f]
  refine Ev.bind (a := r) h1 ?_
  rw [h2]; exact Ev.now _

open Classical in
theorem impl_FieldsOk_l0 (l : List S32) (hn : l.length ≤ 1048576) (hs : ∀ x ∈ l, x.f0.size ≤ 1048576) : ∀ (d i : Nat), i + d = l.length →
    Ev (fun k => impl_FieldsOk.l0 k l ((l.take i).map (fun x => x.f0)) l (l.length : Int) (i : Int)) (decide (fieldsFrom l i)) := by
  intro d
  induction d with
  | zero =>
    intro i hi
    refine Ev.step (fun k => impl_FieldsOk.l0.eq_2 _ _ _ _ _ _) ?_
    simp only [if_neg (show ¬ ((i : Int) < (l.length : Int)) by omega), impl_within_eq, Option.bind_some]
    refine ev_prop (fieldsFrom_end (by omega)).symm ?_
    refine ev_eq fun _ => ?_
    congr 1; exact decide_eq_decide.2 (by omega)
  | succ d ih =>
    intro i hi
    have hst := fieldsFrom_step (l := l) (j := i) (by omega)
    have hsz := hs l[i] (List.getElem_mem _)
    have hlen : ((l.take i).map (fun x => x.f0)).length = i := by rw [List.length_map, List.length_take]; omega
    have hmem : l[i].f0 ∈ (l.take i).map (fun x => x.f0) ↔ ∃ m, ∃ hm : m < i, l[m].f0 = l[i].f0 := by
      rw [List.mem_map]
      constructor
      · rintro ⟨x, hx, he⟩
        obtain ⟨m, hm, rfl⟩ := List.mem_iff_getElem.1 hx
        rw [List.length_take] at hm
        exact ⟨m, by omega, by rw [← he, List.getElem_take]⟩
      · rintro ⟨m, hm, he⟩
        exact ⟨l[m], List.mem_iff_getElem.2 ⟨m, by rw [List.length_take]; omega, by rw [List.getElem_take]⟩, he⟩
    have hnx : (l.take (i + 1)).map (fun x => x.f0) = (l.take i).map (fun x => x.f0) ++ [l[i].f0] := by
      rw [List.take_add_one, List.getElem?_eq_getElem (by omega), List.map_append]; rfl
    refine Ev.step (fun k => impl_FieldsOk.l0.eq_2 _ _ _ _ _ _) ?_
    simp only [if_pos (show ((i : Int) < (l.length : Int)) by omega), if_pos (show 0 ≤ (i : Int) by omega), rdi_Field l i (by omega), impl_within_eq, Option.bind_some]
    have hj1 : ∀ (t : Bool), ((t = true ∧ 1 ≤ l[i].f1 ∧ l[i].f1 ≤ 3) ↔ fieldP l[i]) → Ev (fun k => impl_FieldsOk.j1 k l ((l.take i).map (fun x => x.f0)) t l (l.length : Int) (i : Int) l[i].f0 l[i].f1 l[i].f2) (decide (fieldsFrom l i)) := by
      intro t ht
      refine Ev.step (fun k => impl_FieldsOk.j1.eq_2 _ _ _ _ _ _ _ _ _ _) ?_
      refine Ev.bind (impl_NameOk_ev l[i].f0 (by omega)) ?_
      cases hnm : nameB (bytesOf l[i].f0) with
      | false =>
        simp only [if_neg (show ¬ (false = true) by decide)]
        refine ev_false (fun h => ?_) (Ev.now _)
        have := nameB_iff.2 (hst.1 h).1.1
        rw [hnm] at this; cases this
      | true =>
        simp only [if_true]
        refine Ev.bind (slices_Contains_string_string_ev _ _ (by rw [hlen]; omega)) ?_
        simp only [decide_eq_true_eq, impl_within_eq, Option.bind_some]
        by_cases hc : l[i].f0 ∈ (l.take i).map (fun x => x.f0)
        · simp only [if_pos hc]
          obtain ⟨m, hm, he⟩ := hmem.1 hc
          exact ev_false (fun h => (hst.1 h).1.2.2 m hm he) (Ev.now _)
        · simp only [if_neg hc]
          by_cases hp : fieldP l[i]
          · obtain ⟨h1, h2⟩ := ht.2 hp
            simp only [if_pos h2, h1, if_true, hlen, if_pos (show i < 8796093022208 by omega), wsucc i (by omega)]
            have hnext := ih (i + 1) (by omega)
            rw [hnx] at hnext
            exact ev_prop (hst.trans ⟨fun h => h.2, fun h => ⟨⟨nameB_iff.1 hnm, hp, fun m hm he => hc (hmem.2 ⟨m, hm, he⟩)⟩, h⟩⟩).symm hnext
          · have hf : Ev (fun _ => some false) (decide (fieldsFrom l i)) := ev_false (fun h => hp (hst.1 h).1.2.1) (Ev.now _)
            by_cases h2 : 1 ≤ l[i].f1 ∧ l[i].f1 ≤ 3
            · have h1 : t = false := by
                cases t
                · rfl
                · exact absurd (ht.1 ⟨rfl, h2⟩) hp
              simp only [if_pos h2, h1, if_neg (show ¬ (false = true) by decide)]; exact hf
            · simp only [if_neg h2]; exact hf
    by_cases h1 : l[i].f1 = 1
    · simp only [if_pos h1]
      refine hj1 _ ?_
      unfold fieldP
      rw [decide_eq_true_eq]
      constructor
      · intro h; exact .inl ⟨h1, h.1⟩
      · intro h
        rcases h with h | h
        · exact ⟨h.2, by omega, by omega⟩
        · omega
    · simp only [if_neg h1]
      refine hj1 _ ?_
      unfold fieldP
      rw [beq_iff_eq]
      constructor
      · intro h; exact .inr ⟨by omega, h.2.2, h.1⟩
      · intro h
        rcases h with h | h
        · exact absurd h.1 h1
        · exact ⟨h.2.2, by omega, h.2.1⟩

theorem impl_FieldsOk_ev (l : List S32) (hn : l.length ≤ 1048576) (hs : ∀ x ∈ l, x.f0.size ≤ 1048576) : Ev (fun k => impl_FieldsOk.f k l) (fieldsB l) := impl_FieldsOk_l0 l hn hs l.length 0 (by omega)

theorem impl_FieldsPut_ev (l : List S32) (hn : l.length ≤ 1048576) (hs : ∀ x ∈ l, x.f0.size ≤ 1048576) : Ev (fun k => impl_FieldsPut.f k l) (fieldsPutB l) := by
  simp only [impl_FieldsPut.f, fieldsPutB]
  refine Ev.bind (impl_FieldsOk_ev l hn hs) ?_
  cases h : fieldsB l with
  | false => exact Ev.now _
  | true =>
    obtain ⟨h1, h2⟩ := good_of_fields h
    simp only [if_true]
    exact impl_FieldsPut_l0 l h2 h1 l.length 0 [] (by omega) (by simp) (fun x hx => by simp at hx)

def kindWords : List ByteArray := [(⟨#[]⟩ : ByteArray), (⟨#[116, 101, 120, 116]⟩ : ByteArray), (⟨#[110, 117, 109]⟩ : ByteArray), (⟨#[116, 97, 103]⟩ : ByteArray)]

theorem sz1 (c : UInt8) : (⟨#[c]⟩ : ByteArray).size = 1 := rfl

theorem mk_append (a b : List UInt8) : (⟨a.toArray⟩ : ByteArray) ++ (⟨b.toArray⟩ : ByteArray) = ⟨(a ++ b).toArray⟩ := by
  apply ByteArray.ext
  rw [ByteArray.data_append]
  simp

theorem bytesOf_inj {a b : ByteArray} (h : bytesOf a = bytesOf b) : a = b := by
  have h1 : a.data.toList = b.data.toList := by
    have hl : a.data.toList.length = b.data.toList.length := by
      have := congrArg List.length h
      simpa [bytesOf] using this
    apply List.ext_getElem hl
    intro i h1 h2
    have h3 : (bytesOf a)[i]? = (bytesOf b)[i]? := by rw [h]
    simp only [bytesOf, List.getElem?_map, List.getElem?_eq_getElem h1, List.getElem?_eq_getElem h2, Option.map_some, Option.some.injEq] at h3
    exact UInt8.toNat_inj.1 (by omega)
  exact ByteArray.ext (Array.toList_inj.1 h1)

theorem bytesOf_strOfNums (l : List Int) (h : ∀ c ∈ l, 0 ≤ c ∧ c ≤ 255) : bytesOf (strOfNums l) = l := by
  unfold bytesOf
  rw [strOfNums_data, List.map_map]
  conv => rhs; rw [← List.map_id l]
  apply List.map_congr_left
  intro c hc
  have := h c hc
  simp only [Function.comp, id]
  rw [UInt8.toNat_ofNat']
  omega

theorem strOf_digit (u : Nat) (h : u < 10) (c : Int) (hc : c = 48 + (u : Int)) : strOfNums [c] = (⟨[UInt8.ofNat (48 + u)].toArray⟩ : ByteArray) := by
  subst hc
  apply bytesOf_inj
  rw [bytesOf_strOfNums _ (by intro c hc; rw [List.mem_singleton] at hc; omega)]
  have : bytesOf (⟨[UInt8.ofNat (48 + u)].toArray⟩ : ByteArray) = [((UInt8.ofNat (48 + u)).toNat : Int)] := rfl
  rw [this]
  have h2 : (UInt8.ofNat (48 + u)).toNat = 48 + u := by
    rw [UInt8.toNat_ofNat']
    exact Nat.mod_eq_of_lt (by omega)
  rw [h2]; rfl

theorem spec_l1Dec_ev (u : Nat) : u ≤ 9223372036854775807 → Ev (fun k => spec_l1Dec.f k (u : Int)) (decN u) := by
  induction u using Nat.strongRecOn with
  | _ u ih =>
    intro hu
    refine Ev.step (fun k => spec_l1Dec.f.eq_2 _ _) ?_
    simp only [if_neg (show ¬ ((u : Int) < (-9223372036854775807)) by omega), if_neg (show ¬ ((u : Int) < 0) by omega)]
    by_cases h : u < 10
    · simp only [if_pos (show (u : Int) < 10 by omega), wrap_id (x := 48 + (u : Int)) (by omega) (by omega)]
      rw [strOf_digit u h _ (by omega)]
      have e : decN u = (⟨[UInt8.ofNat (48 + u)].toArray⟩ : ByteArray) := by unfold decN; rw [Lib.decDigits, dif_pos h]
      rw [e]; exact Ev.now _
    · have e1 : Int.tdiv (u : Int) 10 = ((u / 10 : Nat) : Int) := by rw [Int.tdiv_eq_ediv_of_nonneg (by omega)]; omega
      have e2 : Int.tmod (u : Int) 10 = ((u % 10 : Nat) : Int) := by rw [Int.tmod_eq_emod_of_nonneg (by omega)]; omega
      simp only [if_neg (show ¬ ((u : Int) < 10) by omega), e1, e2, wrap_id (x := ((u / 10 : Nat) : Int)) (by omega) (by omega), wrap_id (x := 48 + ((u % 10 : Nat) : Int)) (by omega) (by omega)]
      refine Ev.bind (ih (u / 10) (by omega) (by omega)) ?_
      have hz := decN_size_le (u / 10) (by omega)
      have es := strOf_digit (u % 10) (by omega) ((48 + ((u % 10 : Nat) : Int)) % 256) (by omega)
      have z1 : (⟨[UInt8.ofNat (48 + u % 10)].toArray⟩ : ByteArray).size = 1 := rfl
      simp only [Option.bind_some, es, z1, if_pos (show (decN (u / 10)).size + 1 ≤ 9223372036854775807 by omega)]
      have e : decN u = decN (u / 10) ++ (⟨[UInt8.ofNat (48 + u % 10)].toArray⟩ : ByteArray) := by
        unfold decN
        rw [mk_append]
        conv => lhs; rw [Lib.decDigits, dif_neg h]
      rw [e]; exact Ev.now _

theorem l2Put_tail (l : List S32) (i : Nat) (p : ByteArray) (f : S32) (hp : p.size ≤ 2000) (hf : goodField f) (R : ByteArray) (h : Ev (fun k => spec_l2Put.l0 k l kindWords (p ++ fieldT f) ((i + 1 : Nat) : Int)) R) :
    Ev (fun k => if p.size + f.f0.size ≤ 9223372036854775807 then (if (p ++ f.f0).size + 1 ≤ 9223372036854775807 then (if 0 ≤ f.f1 then (if f.f1 < (kindWords.length : Int) then (if ((p ++ f.f0) ++ (⟨#[58]⟩ : ByteArray)).size + (rdOf ByteArray.empty kindWords f.f1).size ≤ 9223372036854775807 then (if f.f1 = 1 then (if (((p ++ f.f0) ++ (⟨#[58]⟩ : ByteArray)) ++ (rdOf ByteArray.empty kindWords f.f1)).size + 1 ≤ 9223372036854775807 then ((spec_l1Dec.f k f.f2).bind fun t => (if ((((p ++ f.f0) ++ (⟨#[58]⟩ : ByteArray)) ++ (rdOf ByteArray.empty kindWords f.f1)) ++ (⟨#[58]⟩ : ByteArray)).size + t.size ≤ 9223372036854775807 then (spec_l2Put.l0 k l kindWords (((((p ++ f.f0) ++ (⟨#[58]⟩ : ByteArray)) ++ (rdOf ByteArray.empty kindWords f.f1)) ++ (⟨#[58]⟩ : ByteArray)) ++ t) ((i + 1 : Nat) : Int)) else (none))) else (none)) else (spec_l2Put.l0 k l kindWords (((p ++ f.f0) ++ (⟨#[58]⟩ : ByteArray)) ++ (rdOf ByteArray.empty kindWords f.f1)) ((i + 1 : Nat) : Int))) else (none)) else (none)) else (none)) else (none)) else (none)) R := by
  have h2 := hf.2
  have hq := hf.1
  unfold fieldP at hq
  have hk : (kindWords.length : Int) = 4 := rfl
  have z1 : (p ++ f.f0).size = p.size + f.f0.size := ByteArray.size_append
  have z2 : ((p ++ f.f0) ++ (⟨#[58]⟩ : ByteArray)).size = p.size + f.f0.size + 1 := by rw [ByteArray.size_append, z1, sz1]
  simp only [if_pos (show p.size + f.f0.size ≤ 9223372036854775807 by omega), z1, if_pos (show p.size + f.f0.size + 1 ≤ 9223372036854775807 by omega), hk, if_pos (show 0 ≤ f.f1 by omega), if_pos (show f.f1 < 4 by omega), z2]
  by_cases e1 : f.f1 = 1
  · have er : rdOf ByteArray.empty kindWords f.f1 = (⟨#[116, 101, 120, 116]⟩ : ByteArray) := by rw [e1]; rfl
    have zr : (⟨#[116, 101, 120, 116]⟩ : ByteArray).size = 4 := rfl
    have z3 : (((p ++ f.f0) ++ (⟨#[58]⟩ : ByteArray)) ++ (⟨#[116, 101, 120, 116]⟩ : ByteArray)).size = p.size + f.f0.size + 1 + 4 := by rw [ByteArray.size_append, z2, zr]
    have z4 : ((((p ++ f.f0) ++ (⟨#[58]⟩ : ByteArray)) ++ (⟨#[116, 101, 120, 116]⟩ : ByteArray)) ++ (⟨#[58]⟩ : ByteArray)).size = p.size + f.f0.size + 1 + 4 + 1 := by rw [ByteArray.size_append, z3, sz1]
    have hn : f.f2 = ((f.f2.toNat : Nat) : Int) := by omega
    have hz := decN_size_le f.f2.toNat (by omega)
    simp only [er, zr, if_pos (show p.size + f.f0.size + 1 + 4 ≤ 9223372036854775807 by omega), if_pos e1, z3, if_pos (show p.size + f.f0.size + 1 + 4 + 1 ≤ 9223372036854775807 by omega)]
    have hd := spec_l1Dec_ev f.f2.toNat (by omega)
    rw [← hn] at hd
    refine Ev.bind hd ?_
    simp only [z4, if_pos (show p.size + f.f0.size + 1 + 4 + 1 + (decN f.f2.toNat).size ≤ 9223372036854775807 by omega)]
    have e : ((((p ++ f.f0) ++ (⟨#[58]⟩ : ByteArray)) ++ (⟨#[116, 101, 120, 116]⟩ : ByteArray)) ++ (⟨#[58]⟩ : ByteArray)) ++ decN f.f2.toNat = p ++ fieldT f := by
      unfold fieldT
      have e58 : (⟨#[58, 116, 101, 120, 116, 58]⟩ : ByteArray) = ((⟨#[58]⟩ : ByteArray) ++ (⟨#[116, 101, 120, 116]⟩ : ByteArray)) ++ (⟨#[58]⟩ : ByteArray) := rfl
      rw [if_pos e1, e58]
      simp only [ByteArray.append_assoc]
    rw [e]; exact h
  · have e2 : f.f1 = 2 ∨ f.f1 = 3 := by omega
    rcases e2 with e2 | e2
    · have er : rdOf ByteArray.empty kindWords f.f1 = (⟨#[110, 117, 109]⟩ : ByteArray) := by rw [e2]; rfl
      have zr : (⟨#[110, 117, 109]⟩ : ByteArray).size = 3 := rfl
      simp only [er, zr, if_pos (show p.size + f.f0.size + 1 + 3 ≤ 9223372036854775807 by omega), if_neg e1]
      have e : ((p ++ f.f0) ++ (⟨#[58]⟩ : ByteArray)) ++ (⟨#[110, 117, 109]⟩ : ByteArray) = p ++ fieldT f := by
        unfold fieldT
        have e58 : (⟨#[58, 110, 117, 109]⟩ : ByteArray) = (⟨#[58]⟩ : ByteArray) ++ (⟨#[110, 117, 109]⟩ : ByteArray) := rfl
        rw [if_neg e1, if_pos e2, e58]
        simp only [ByteArray.append_assoc]
      rw [e]; exact h
    · have er : rdOf ByteArray.empty kindWords f.f1 = (⟨#[116, 97, 103]⟩ : ByteArray) := by rw [e2]; rfl
      have zr : (⟨#[116, 97, 103]⟩ : ByteArray).size = 3 := rfl
      simp only [er, zr, if_pos (show p.size + f.f0.size + 1 + 3 ≤ 9223372036854775807 by omega), if_neg e1]
      have e : ((p ++ f.f0) ++ (⟨#[58]⟩ : ByteArray)) ++ (⟨#[116, 97, 103]⟩ : ByteArray) = p ++ fieldT f := by
        unfold fieldT
        have e58 : (⟨#[58, 116, 97, 103]⟩ : ByteArray) = (⟨#[58]⟩ : ByteArray) ++ (⟨#[116, 97, 103]⟩ : ByteArray) := rfl
        rw [if_neg e1, if_neg (by omega), e58]
        simp only [ByteArray.append_assoc]
      rw [e]; exact h

theorem mk_append2 (a b : List UInt8) : (⟨(a ++ b).toArray⟩ : ByteArray) = (⟨a.toArray⟩ : ByteArray) ++ (⟨b.toArray⟩ : ByteArray) := by
  apply ByteArray.ext
  rw [ByteArray.data_append]
  simp

theorem mk_data (x : ByteArray) : (⟨x.data.toList.toArray⟩ : ByteArray) = x := by cases x; rfl

def tailT (xs : List ByteArray) (sep : ByteArray) : ByteArray := ⟨(Lib.joinTail sep.data.toList (xs.map (·.data.toList))).toArray⟩

theorem joinT_cons (x : ByteArray) (xs : List ByteArray) (sep : ByteArray) : joinT (x :: xs) sep = x ++ tailT xs sep := by
  unfold joinT tailT
  rw [List.map_cons, Lib.join_cons, mk_append2, mk_data]

theorem joinT_nil (sep : ByteArray) : joinT [] sep = ⟨#[]⟩ := rfl

theorem tailT_cons (x : ByteArray) (xs : List ByteArray) (sep : ByteArray) : tailT (x :: xs) sep = (sep ++ x) ++ tailT xs sep := by
  unfold tailT Lib.joinTail
  rw [List.map_cons, List.map_cons, List.flatten_cons, mk_append2, mk_append2, mk_data, mk_data]

theorem tailT_nil (sep : ByteArray) : tailT [] sep = ⟨#[]⟩ := rfl

theorem spec_l2Put_l0 (l : List S32) (hn : l.length ≤ 4) (hg : ∀ x ∈ l, goodField x) : ∀ (d i : Nat) (acc : ByteArray), i + d = l.length → acc.size + 40 * d ≤ 1000 →
    Ev (fun k => spec_l2Put.l0 k l kindWords acc (i : Int)) (if 0 < i then acc ++ tailT ((l.drop i).map fieldT) sp else acc ++ joinT ((l.drop i).map fieldT) sp) := by
  intro d
  induction d with
  | zero =>
    intro i acc hi ha
    refine Ev.step (fun k => spec_l2Put.l0.eq_2 _ _ _ _ _) ?_
    simp only [if_neg (show ¬ ((i : Int) < (l.length : Int)) by omega)]
    rw [List.drop_eq_nil_of_le (by omega), List.map_nil, tailT_nil, joinT_nil]
    have : acc ++ (⟨#[]⟩ : ByteArray) = acc := ByteArray.append_empty
    rw [this, ite_self]; exact Ev.now _
  | succ d ih =>
    intro i acc hi ha
    have hgi := hg l[i] (List.getElem_mem _)
    have hz := fieldT_size l[i] hgi
    have zs : sp.size = 1 := rfl
    refine Ev.step (fun k => spec_l2Put.l0.eq_2 _ _ _ _ _) ?_
    rw [drop_get l i (by omega), List.map_cons]
    by_cases hp : 0 < i
    · have z1 : (acc ++ sp).size = acc.size + 1 := by rw [ByteArray.size_append, zs]
      have hx := ih (i + 1) ((acc ++ sp) ++ fieldT l[i]) (by omega) (by rw [ByteArray.size_append, z1]; omega)
      rw [if_pos (show 0 < i + 1 by omega)] at hx
      have ht := l2Put_tail l i (acc ++ sp) l[i] (by omega) hgi _ hx
      simp only [if_pos (show ((i : Int) < (l.length : Int)) by omega), if_pos (show (i : Int) > 0 by omega), if_pos (show acc.size + 1 ≤ 9223372036854775807 by omega), if_pos (show 0 ≤ (i : Int) by omega), rdi_Field l i (by omega), wsucc i (by omega), if_pos hp, tailT_cons]
      have e : acc ++ ((sp ++ fieldT l[i]) ++ tailT ((l.drop (i + 1)).map fieldT) sp) = ((acc ++ sp) ++ fieldT l[i]) ++ tailT ((l.drop (i + 1)).map fieldT) sp := by
        rw [← ByteArray.append_assoc, ← ByteArray.append_assoc]
      rw [e]; exact ht
    · obtain rfl : i = 0 := by omega
      have hx := ih 1 (acc ++ fieldT l[0]) (by omega) (by rw [ByteArray.size_append]; omega)
      rw [if_pos (show 0 < 1 by omega)] at hx
      have ht := l2Put_tail l 0 acc l[0] (by omega) hgi _ hx
      simp only [if_pos (show (((0 : Nat) : Int) < (l.length : Int)) by omega), if_neg (show ¬ (((0 : Nat) : Int) > 0) by omega), if_pos (show 0 ≤ ((0 : Nat) : Int) by omega), rdi_Field l 0 (by omega), wsucc 0 (by omega), if_neg hp, joinT_cons]
      rw [← ByteArray.append_assoc]; exact ht

theorem spec_l2Field_l0 (l : List S32) (n : ByteArray) (hn : l.length < 4611686018427387904) : ∀ (d i : Nat), i + d = l.length → (∀ m (hm : m < l.length), m < i → l[m].f0 ≠ n) →
    ∃ r, Ev (fun k => spec_l2Field.l0 k l n (i : Int)) r ∧ ((r = -1 ∧ ∀ x ∈ l, x.f0 ≠ n) ∨ ∃ (j : Nat) (hj : j < l.length), r = (j : Int) ∧ l[j].f0 = n ∧ ∀ m (hm : m < j), l[m].f0 ≠ n) := by
  intro d
  induction d with
  | zero =>
    intro i hi hb
    refine ⟨-1, Ev.step (fun k => spec_l2Field.l0.eq_2 _ _ _ _) ?_, .inl ⟨rfl, fun x hx => ?_⟩⟩
    · simp only [if_neg (show ¬ ((i : Int) < (l.length : Int)) by omega)]; exact Ev.now _
    · obtain ⟨m, hm, rfl⟩ := List.mem_iff_getElem.1 hx
      exact hb m hm (by omega)
  | succ d ih =>
    intro i hi hb
    by_cases h : l[i].f0 = n
    · refine ⟨(i : Int), Ev.step (fun k => spec_l2Field.l0.eq_2 _ _ _ _) ?_, .inr ⟨i, by omega, rfl, h, fun m hm => hb m (by omega) hm⟩⟩
      simp only [if_pos (show ((i : Int) < (l.length : Int)) by omega), if_pos (show 0 ≤ (i : Int) by omega), rdi_Field l i (by omega), toList_inj, if_pos h]
      exact Ev.now _
    · obtain ⟨r, hr, hq⟩ := ih (i + 1) (by omega) (fun m hm hlt => by
        rcases Nat.lt_or_ge m i with h1 | h1
        · exact hb m hm h1
        · obtain rfl : m = i := by omega
          exact h)
      refine ⟨r, Ev.step (fun k => spec_l2Field.l0.eq_2 _ _ _ _) ?_, hq⟩
      simp only [if_pos (show ((i : Int) < (l.length : Int)) by omega), if_pos (show 0 ≤ (i : Int) by omega), rdi_Field l i (by omega), toList_inj, if_neg h, wsucc i (by omega)]
      exact hr

theorem spec_l2Field_ev (l : List S32) (n : ByteArray) (hn : l.length < 4611686018427387904) :
    ∃ r, Ev (fun k => spec_l2Field.f k l n) r ∧ ((r = -1 ∧ ∀ x ∈ l, x.f0 ≠ n) ∨ ∃ (j : Nat) (hj : j < l.length), r = (j : Int) ∧ l[j].f0 = n ∧ ∀ m (hm : m < j), l[m].f0 ≠ n) :=
  spec_l2Field_l0 l n hn l.length 0 (by omega) (fun m hm h => absurd h (by omega))

theorem spec_l1In_eq (a b c : Int) : spec_l1In.f a b c = some (decide (b ≤ a ∧ a ≤ c)) := by
  unfold spec_l1In.f
  by_cases h : a ≥ b
  · rw [if_pos h]; congr 1; exact decide_eq_decide.2 ⟨fun h2 => ⟨h, h2⟩, fun h2 => h2.2⟩
  · rw [if_neg h]; congr 1; symm; exact decide_eq_false (fun h2 => h h2.1)

open Classical in
theorem spec_NameOk_l0 (s : ByteArray) (hn : s.size < 4611686018427387904) : ∀ (d i : Nat), i + d = s.size → Ev (fun k => spec_NameOk.l0 k s (i : Int)) (decide (nameFrom (bytesOf s) i)) := by
  have hb := bytesOf_length s
  intro d
  induction d with
  | zero =>
    intro i hi
    refine Ev.step (fun k => spec_NameOk.l0.eq_2 _ _ _) ?_
    simp only [if_neg (show ¬ ((i : Int) < (s.size : Int)) by omega), spec_l1In_eq, Option.bind_some]
    refine ev_prop (nameFrom_end (by omega)).symm ?_
    refine ev_eq fun _ => ?_
    congr 1; exact decide_eq_decide.2 (by omega)
  | succ d ih =>
    intro i hi
    have hs := nameFrom_step (l := bytesOf s) (j := i) (by omega)
    refine Ev.step (fun k => spec_NameOk.l0.eq_2 _ _ _) ?_
    simp only [if_pos (show ((i : Int) < (s.size : Int)) by omega), if_pos (show 0 ≤ (i : Int) by omega), wsucc i (by omega), bt_get s i (by omega)]
    by_cases h1 : lowP (bytesOf s)[i]
    · simp only [if_pos (show (bytesOf s)[i] ≥ 97 from h1.1), if_pos h1.2]
      exact ev_prop (hs.trans ⟨fun h => h.2, fun h => ⟨.inl h1, h⟩⟩).symm (ih (i + 1) (by omega))
    · have key : Ev (fun k => if (i : Int) = 0 then some false else if (bytesOf s)[i] < 48 then some false else if (bytesOf s)[i] > 57 then some false else spec_NameOk.l0 k s ((i + 1 : Nat) : Int)) (decide (nameFrom (bytesOf s) i)) := by
        by_cases h0 : (i : Int) = 0
        · simp only [if_pos h0]
          have : decide (nameFrom (bytesOf s) i) = false := decide_eq_false (fun h => by rcases (hs.1 h).1 with h2 | h2; exact h1 h2; omega)
          rw [this]; exact Ev.now _
        · simp only [if_neg h0]
          by_cases h2 : digP (bytesOf s)[i]
          · simp only [if_neg (show ¬ (bytesOf s)[i] < 48 by have := h2.1; omega), if_neg (show ¬ (bytesOf s)[i] > 57 by have := h2.2; omega)]
            exact ev_prop (hs.trans ⟨fun h => h.2, fun h => ⟨.inr ⟨by omega, h2⟩, h⟩⟩).symm (ih (i + 1) (by omega))
          · have : decide (nameFrom (bytesOf s) i) = false := decide_eq_false (fun h => by rcases (hs.1 h).1 with h3 | h3; exact h1 h3; exact h2 h3.2)
            rw [this]
            by_cases h3 : (bytesOf s)[i] < 48
            · simp only [if_pos h3]; exact Ev.now _
            · simp only [if_neg h3, if_pos (show (bytesOf s)[i] > 57 by unfold digP at h2; omega)]; exact Ev.now _
      by_cases h3 : (bytesOf s)[i] ≥ 97
      · simp only [if_pos h3, if_neg (show ¬ (bytesOf s)[i] ≤ 122 by unfold lowP at h1; omega)]; exact key
      · simp only [if_neg h3]; exact key

theorem spec_NameOk_ev (s : ByteArray) (hn : s.size < 4611686018427387904) : Ev (fun k => spec_NameOk.f k s) (nameB (bytesOf s)) := spec_NameOk_l0 s hn s.size 0 (by omega)

open Classical in
theorem spec_FieldsOk_l0 (l : List S32) (hn : l.length ≤ 1048576) (hs : ∀ x ∈ l, x.f0.size ≤ 1048576) : ∀ (d i : Nat), i + d = l.length → Ev (fun k => spec_FieldsOk.l0 k l (i : Int)) (decide (fieldsFrom l i)) := by
  intro d
  induction d with
  | zero =>
    intro i hi
    refine Ev.step (fun k => spec_FieldsOk.l0.eq_2 _ _ _) ?_
    simp only [if_neg (show ¬ ((i : Int) < (l.length : Int)) by omega), spec_l1In_eq, Option.bind_some]
    refine ev_prop (fieldsFrom_end (by omega)).symm ?_
    refine ev_eq fun _ => ?_
    congr 1; exact decide_eq_decide.2 (by omega)
  | succ d ih =>
    intro i hi
    have hst := fieldsFrom_step (l := l) (j := i) (by omega)
    have hsz := hs l[i] (List.getElem_mem _)
    refine Ev.step (fun k => spec_FieldsOk.l0.eq_2 _ _ _) ?_
    simp only [if_pos (show ((i : Int) < (l.length : Int)) by omega), if_pos (show 0 ≤ (i : Int) by omega), rdi_Field l i (by omega), spec_l1In_eq, Option.bind_some]
    have hj2 : ∀ (t o : Bool), ((t || o) = true ↔ fieldP l[i]) → Ev (fun k => spec_FieldsOk.j2 k l (i : Int) t o l[i].f0 l[i].f1 l[i].f2) (decide (fieldsFrom l i)) := by
      intro t o hto
      refine Ev.step (fun k => spec_FieldsOk.j2.eq_2 _ _ _ _ _ _ _ _) ?_
      refine Ev.bind (spec_NameOk_ev l[i].f0 (by omega)) ?_
      cases hnm : nameB (bytesOf l[i].f0) with
      | false =>
        simp only [if_neg (show ¬ (false = true) by decide)]
        refine ev_false (fun h => ?_) (Ev.now _)
        have := nameB_iff.2 (hst.1 h).1.1
        rw [hnm] at this; cases this
      | true =>
        simp only [if_true]
        obtain ⟨r, hr, hq⟩ := spec_l2Field_ev l l[i].f0 (by omega)
        refine Ev.bind hr ?_
        by_cases he : r = (i : Int)
        · have hfirst : ∀ m (hm : m < i), l[m].f0 ≠ l[i].f0 := by
            rcases hq with hq | ⟨j, hj, h1, h2, h3⟩
            · omega
            · obtain rfl : j = i := by omega
              exact h3
          simp only [if_pos he, wsucc i (by omega)]
          have hnext := ih (i + 1) (by omega)
          by_cases hp : fieldP l[i]
          · have hb := hto.2 hp
            have hgoal : Ev (fun k => spec_FieldsOk.l0 k l ((i + 1 : Nat) : Int)) (decide (fieldsFrom l i)) := ev_prop (hst.trans ⟨fun h => h.2, fun h => ⟨⟨nameB_iff.1 hnm, hp, hfirst⟩, h⟩⟩).symm hnext
            cases t with
            | true => simp only [if_true]; exact hgoal
            | false =>
              have ho : o = true := by simpa using hb
              simp only [if_neg (show ¬ (false = true) by decide), ho, if_true]; exact hgoal
          · have hb : (t || o) = false := by rw [Bool.eq_false_iff]; exact fun h => hp (hto.1 h)
            have ht : t = false := by cases t; rfl; simp at hb
            have ho : o = false := by cases o; rfl; simp at hb
            simp only [ht, ho, if_neg (show ¬ (false = true) by decide)]
            exact ev_false (fun h => hp (hst.1 h).1.2.1) (Ev.now _)
        · simp only [if_neg he]
          refine ev_false (fun h => ?_) (Ev.now _)
          have h4 := (hst.1 h).1.2.2
          rcases hq with ⟨h1, h2⟩ | ⟨j, hj, h1, h2, h3⟩
          · exact h2 l[i] (List.getElem_mem _) rfl
          · rcases Nat.lt_trichotomy j i with h5 | h5 | h5
            · exact h4 j h5 h2
            · exact he (by omega)
            · exact h3 i h5 rfl
    have hj1 : ∀ (t : Bool), (t = true ↔ (l[i].f1 = 1 ∧ 1 ≤ l[i].f2 ∧ l[i].f2 ≤ 9)) → Ev (fun k => spec_FieldsOk.j1 k l (i : Int) t l[i].f0 l[i].f1 l[i].f2) (decide (fieldsFrom l i)) := by
      intro t ht
      refine Ev.step (fun k => spec_FieldsOk.j1.eq_2 _ _ _ _ _ _ _) ?_
      simp only [spec_l1In_eq, Option.bind_some, decide_eq_true_eq]
      by_cases h2 : 2 ≤ l[i].f1 ∧ l[i].f1 ≤ 3
      · simp only [if_pos h2]
        refine hj2 t _ ?_
        unfold fieldP
        rw [Bool.or_eq_true, ht, beq_iff_eq]
        constructor
        · rintro (h | h)
          · exact .inl h
          · exact .inr ⟨h2.1, h2.2, h⟩
        · rintro (h | h)
          · exact .inl h
          · exact .inr h.2.2
      · simp only [if_neg h2]
        refine hj2 t false ?_
        unfold fieldP
        rw [Bool.or_false, ht]
        exact ⟨.inl, fun h => h.resolve_right (fun h3 => h2 ⟨h3.1, h3.2.1⟩)⟩
    by_cases h1 : l[i].f1 = 1
    · simp only [if_pos h1]
      refine hj1 _ ?_
      rw [decide_eq_true_eq]
      exact ⟨fun h => ⟨h1, h⟩, fun h => h.2⟩
    · simp only [if_neg h1]
      exact hj1 false ⟨(fun h => by cases h), fun h => absurd h.1 h1⟩

theorem spec_FieldsOk_ev (l : List S32) (hn : l.length ≤ 1048576) (hs : ∀ x ∈ l, x.f0.size ≤ 1048576) : Ev (fun k => spec_FieldsOk.f k l) (fieldsB l) := spec_FieldsOk_l0 l hn hs l.length 0 (by omega)

theorem spec_FieldsPut_ev (l : List S32) (hn : l.length ≤ 1048576) (hs : ∀ x ∈ l, x.f0.size ≤ 1048576) : Ev (fun k => spec_FieldsPut.f k l) (fieldsPutB l) := by
  simp only [spec_FieldsPut.f, fieldsPutB]
  refine Ev.bind (spec_FieldsOk_ev l hn hs) ?_
  cases h : fieldsB l with
  | false => exact Ev.now _
  | true =>
    obtain ⟨h1, h2⟩ := good_of_fields h
    simp only [if_true, spec_l2Put.f]
    have hx := spec_l2Put_l0 l h2 h1 l.length 0 (⟨#[]⟩ : ByteArray) (by omega) (by have : (⟨#[]⟩ : ByteArray).size = 0 := rfl; omega)
    rw [if_neg (by omega), List.drop_zero] at hx
    have e : (⟨#[]⟩ : ByteArray) ++ joinT (l.map fieldT) sp = joinT (l.map fieldT) sp := ByteArray.empty_append
    rw [e] at hx
    exact Ev.bind hx (Ev.now _)

def cField (x : S82) : S32 := ⟨x.f0, x.f1, x.f2⟩

open Classical in
theorem eqField_eq (x y : S32) : laws_eqField.f x.f0 x.f1 x.f2 y.f0 y.f1 y.f2 = some (decide (x = y)) := by
  obtain ⟨a0, a1, a2⟩ := x
  obtain ⟨b0, b1, b2⟩ := y
  simp only [laws_eqField.f, toList_inj]
  by_cases h0 : a0 = b0
  case neg => simp [h0]
  by_cases h1 : a1 = b1
  case neg => simp [h0, h1]
  by_cases h2 : a2 = b2
  case neg => simp [h0, h1, h2]
  simp [h0, h1, h2]

theorem drop_eq_step {α : Type} {a b : List α} {j : Nat} (ha : j < a.length) (hb : j < b.length) : a.drop j = b.drop j ↔ a[j] = b[j] ∧ a.drop (j + 1) = b.drop (j + 1) := by
  rw [List.drop_eq_getElem_cons ha, List.drop_eq_getElem_cons hb, List.cons.injEq]

theorem ev_true {g : Nat → Option Bool} {p : Prop} [Decidable p] (h : p) (k : Ev g true) : Ev g (decide p) := by
  rw [decide_eq_true h]; exact k

open Classical in
theorem eqFieldS_l0 (a b : List S32) (hn : a.length < 4611686018427387904) (hl : a.length = b.length) : ∀ (d i : Nat), i + d = a.length →
    Ev (fun k => laws_eqFieldS.l0 k a b (i : Int)) (decide (a.drop i = b.drop i)) := by
  intro d
  induction d with
  | zero =>
    intro i hi
    refine Ev.step (fun k => laws_eqFieldS.l0.eq_2 _ _ _ _) ?_
    simp only [if_neg (show ¬ ((i : Int) < (a.length : Int)) by omega)]
    rw [List.drop_of_length_le (by omega), List.drop_of_length_le (by omega)]
    exact ev_true rfl (Ev.now _)
  | succ d ih =>
    intro i hi
    refine Ev.step (fun k => laws_eqFieldS.l0.eq_2 _ _ _ _) ?_
    simp only [if_pos (show ((i : Int) < (a.length : Int)) by omega), if_pos (show 0 ≤ (i : Int) by omega), if_pos (show ((i : Int) < (b.length : Int)) by omega), wsucc i (by omega), rdi_Field a i (by omega), rdi_Field b i (by omega), eqField_eq, Option.bind_some, decide_eq_true_eq]
    have hs := drop_eq_step (a := a) (b := b) (show i < a.length by omega) (show i < b.length by omega)
    by_cases h : a[i] = b[i]
    · simp only [if_pos h]
      exact ev_prop (hs.trans ⟨fun h1 => h1.2, fun h1 => ⟨h, h1⟩⟩).symm (ih (i + 1) (by omega))
    · simp only [if_neg h]
      exact ev_false (fun h1 => h (hs.1 h1).1) (Ev.now _)

open Classical in
theorem eqFieldS_ev (a b : List S32) (hn : a.length < 4611686018427387904) : Ev (fun k => laws_eqFieldS.f k a b) (decide (a = b)) := by
  simp only [laws_eqFieldS.f]
  by_cases hl : a.length = b.length
  · simp only [if_pos (show (a.length : Int) = (b.length : Int) by omega)]
    exact eqFieldS_l0 a b hn hl a.length 0 (by omega)
  · simp only [if_neg (show ¬ (a.length : Int) = (b.length : Int) by omega)]
    exact ev_false (fun h => hl (by rw [h])) (Ev.now _)

open Classical in
theorem eqFieldS_refl (a : List S32) (hn : a.length < 4611686018427387904) : Ev (fun k => laws_eqFieldS.f k a a) true := by
  have := eqFieldS_ev a a hn
  rwa [decide_eq_true rfl] at this

def smallField (x : S82) : Prop := x.f0.size ≤ 1048576

theorem rdl_Field (l : List S82) (j : Nat) (h : j < l.length) : rd_T82 l (j : Int) = l[j] := by
  unfold rd_T82; simp [List.getD_eq_getElem?_getD, List.getElem?_eq_getElem h]

def wideField (x : S82) : Prop := x.f0.size ≤ 9223372036854775807

theorem szField_eq (x : S82) (a : Int) (hx : wideField x) (h0 : 0 ≤ a) (h1 : a ≤ 1048576) : ∃ r, laws_szField.f x.f0 x.f1 x.f2 a = some r ∧ (r = -1 ∨ (0 ≤ r ∧ r ≤ a ∧ smallField x)) := by
  unfold wideField at hx
  unfold smallField
  unfold laws_szField.f
  rw [wrap_id (x := a - (x.f0.size : Int)) (by omega) (by omega)]
  by_cases h20 : a - (x.f0.size : Int) < 0
  · rw [if_pos h20]; exact ⟨_, rfl, .inl rfl⟩
  rw [if_neg h20]
  exact ⟨_, rfl, .inr ⟨by omega, by omega, by omega⟩⟩

theorem szFieldS_l0 (l : List S82) (hl : l.length ≤ 1048576) (hg : ∀ x ∈ l, wideField x) : ∀ (d i : Nat) (a : Int), i + d = l.length → 0 ≤ a → a ≤ 1048576 →
    ∃ r, Ev (fun k => laws_szFieldS.l0 k l a (i : Int)) r ∧ (r = -1 ∨ (0 ≤ r ∧ r ≤ a ∧ ∀ x ∈ l.drop i, smallField x)) := by
  intro d
  induction d with
  | zero =>
    intro i a hi h0 h1
    refine ⟨a, Ev.step (fun k => laws_szFieldS.l0.eq_2 _ _ _ _) ?_, .inr ⟨h0, Int.le_refl _, fun x hx => ?_⟩⟩
    · simp only [if_neg (show ¬ ((i : Int) < (l.length : Int)) by omega)]; exact Ev.now _
    · rw [List.drop_of_length_le (by omega)] at hx; cases hx
  | succ d ih =>
    intro i a hi h0 h1
    obtain ⟨r1, hr1, hc⟩ := szField_eq l[i] a (hg _ (List.getElem_mem _)) h0 h1
    rcases hc with hc | ⟨hc0, hc1, hc2⟩
    · refine ⟨-1, Ev.step (fun k => laws_szFieldS.l0.eq_2 _ _ _ _) ?_, .inl rfl⟩
      simp only [if_pos (show ((i : Int) < (l.length : Int)) by omega), if_pos (show 0 ≤ (i : Int) by omega), rdl_Field l i (by omega), hr1, Option.bind_some, hc]
      exact Ev.now _
    · obtain ⟨r, hr, hq⟩ := ih (i + 1) r1 (by omega) hc0 (by omega)
      refine ⟨r, Ev.step (fun k => laws_szFieldS.l0.eq_2 _ _ _ _) ?_, ?_⟩
      · simp only [if_pos (show ((i : Int) < (l.length : Int)) by omega), if_pos (show 0 ≤ (i : Int) by omega), rdl_Field l i (by omega), hr1, Option.bind_some, if_neg (show ¬ r1 < 0 by omega), wsucc i (by omega)]
        exact hr
      · rcases hq with hq | ⟨q0, q1, q2⟩
        · exact .inl hq
        · refine .inr ⟨q0, by omega, fun x hx => ?_⟩
          rcases (mem_drop_step (show i < l.length by omega)).1 hx with hx | hx
          · rw [hx]; exact hc2
          · exact q2 x hx

theorem szFieldS_ev (l : List S82) (hl : l.length ≤ 9223372036854775807) (hg : ∀ x ∈ l, wideField x) (a : Int) (h0 : 0 ≤ a) (h1 : a ≤ 1048576) :
    ∃ r, Ev (fun k => laws_szFieldS.f k l a) r ∧ (r = -1 ∨ (0 ≤ r ∧ r ≤ a ∧ l.length ≤ 1048576 ∧ ∀ x ∈ l, smallField x)) := by
  simp only [laws_szFieldS.f, wrap_id (x := a - (l.length : Int)) (by omega) (by omega)]
  by_cases h2 : a - (l.length : Int) < 0
  · simp only [if_pos h2]; exact ⟨-1, Ev.now _, .inl rfl⟩
  · simp only [if_neg h2]
    obtain ⟨r, hr, hq⟩ := szFieldS_l0 l (by omega) hg l.length 0 (a - (l.length : Int)) (by omega) (by omega) (by omega)
    refine ⟨r, hr, ?_⟩
    rcases hq with hq | ⟨q0, q1, q2⟩
    · exact .inl hq
    · exact .inr ⟨q0, by omega, by omega, q2⟩

theorem take_set_succ {α : Type} (l m : List α) (i : Nat) (v : α) (hl : i < l.length) (hm : i < m.length) (hv : m[i] = v) (h : l.take i = m.take i) : (l.set i v).take (i + 1) = m.take (i + 1) := by
  rw [List.take_add_one, List.take_add_one, List.take_set_of_le (Nat.le_refl _), h]
  congr 1
  rw [List.getElem?_set_self hl, List.getElem?_eq_getElem hm, hv]

theorem toNat_cast (i : Nat) : ((i : Int)).toNat = i := by simp

theorem toFieldS_l0 (l : List S82) (hn : l.length ≤ 1048576) : ∀ (d i : Nat) (acc : List S32), i + d = l.length → acc.length = l.length → acc.take i = (l.map cField).take i →
    Ev (fun k => laws_toFieldS.l0 k l acc (i : Int)) (l.map cField) := by
  intro d
  induction d with
  | zero =>
    intro i acc hi hl ht
    refine Ev.step (fun k => laws_toFieldS.l0.eq_2 _ _ _ _) ?_
    simp only [if_neg (show ¬ ((i : Int) < (l.length : Int)) by omega)]
    have : acc = l.map cField := by rw [List.take_of_length_le (by omega), List.take_of_length_le (by rw [List.length_map]; omega)] at ht; exact ht
    rw [this]; exact Ev.now _
  | succ d ih =>
    intro i acc hi hl ht
    refine Ev.step (fun k => laws_toFieldS.l0.eq_2 _ _ _ _) ?_
    simp only [if_pos (show ((i : Int) < (l.length : Int)) by omega), if_pos (show 0 ≤ (i : Int) by omega), laws_toField.f, Option.bind_some, if_pos (show ((i : Int) < (acc.length : Int)) by omega), wsucc i (by omega), toNat_cast, rdl_Field l i (by omega)]
    exact ih (i + 1) _ (by omega) (by simp [hl]) (take_set_succ _ _ _ _ (by omega) (by rw [List.length_map]; omega) (by rw [List.getElem_map]; rfl) ht)

theorem toFieldS_ev (l : List S82) (hn : l.length ≤ 1048576) : Ev (fun k => laws_toFieldS.f k l) (l.map cField) := by
  simp only [laws_toFieldS.f, if_pos (show 0 ≤ (l.length : Int) by omega), toNat_cast]
  refine Ev.congr (f := fun k => laws_toFieldS.l0 k l (List.replicate l.length z32) 0) (fun k => if_pos (by omega)) ?_
  exact toFieldS_l0 l hn l.length 0 _ (by omega) (by simp) rfl

theorem small_map_Field {l : List S82} (h : ∀ x ∈ l, smallField x) : ∀ x ∈ l.map cField, x.f0.size ≤ 1048576 := by
  intro x hx
  obtain ⟨y, hy, rfl⟩ := List.mem_map.1 hx
  exact h y hy

theorem FnExactFieldsPut : laws_FnExactFieldsPut.PureX := by
  intro l hl
  have hm : maxLen = 9223372036854775807 := rfl
  refine Ev.rounds (g := fun k => laws_FnExactFieldsPut.f k l) ?_
  simp only [laws_FnExactFieldsPut.f]
  obtain ⟨r, hr, hq⟩ := szFieldS_ev l (by omega) (fun x hx => by have := hl.2 x hx; unfold wideField; have := this.1; omega) 1048576 (by omega) (by omega)
  refine Ev.bind hr ?_
  rcases hq with hq | ⟨q0, q1, q2, q3⟩
  · simp only [hq, if_pos (show (-1 : Int) < 0 by omega)]; exact Ev.now _
  simp only [if_neg (show ¬ r < 0 by omega)]
  have hlen : (l.map cField).length ≤ 1048576 := by rw [List.length_map]; omega
  refine Ev.bind (toFieldS_ev l q2) ?_
  refine Ev.bind (spec_FieldsPut_ev _ hlen (small_map_Field q3)) ?_
  refine Ev.bind (toFieldS_ev l q2) ?_
  refine Ev.bind (impl_FieldsPut_ev _ hlen (small_map_Field q3)) ?_
  simp only [if_true]
  refine Ev.bind (toFieldS_ev l q2) ?_
  refine Ev.bind (eqFieldS_refl _ (by omega)) ?_
  simp only [if_true]
  exact Ev.now _

end Go.Proofs.YtglcgkbecfmegaaDoor.Pure
