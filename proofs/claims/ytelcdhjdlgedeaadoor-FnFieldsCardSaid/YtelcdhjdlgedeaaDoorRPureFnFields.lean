/- The plain law of FnFields: whatever the input, the printed function of this law answers true after enough rounds; conditions: only the sizes and kinds that the law's Pure states. -/
import Derived.Test.YtelcdhjdlgedeaaDoorRSFnFields
import Derived.Lib.Join
import Derived.Lib.IndexBytes
import Derived.Lib.SplitLaws
import Derived.Lib.AtoiAllCases
import Derived.Lib.ItoaNum
import Derived.Lib.Strings
namespace Go.Proofs.YtelcdhjdlgedeaaDoor.Pure
open Go.RowKit Go.Proofs.YtelcdhjdlgedeaaDoor.PFnFields Go.Proofs.YtelcdhjdlgedeaaDoorW.PrintWords Go.Proofs.YtelcdhjdlgedeaaDoorW.PrintLast Go.Proofs.YtelcdhjdlgedeaaDoorW.PrintMore
set_option linter.unusedVariables false
set_option linter.unusedSimpArgs false

def fieldP (f : S75) : Prop := (f.f1 = 1 ∧ 1 ≤ f.f2 ∧ f.f2 ≤ 9) ∨ (2 ≤ f.f1 ∧ f.f1 ≤ 3 ∧ f.f2 = 0)

def digP (c : Int) : Prop := 48 ≤ c ∧ c ≤ 57
instance (c : Int) : Decidable (digP c) := by unfold digP; infer_instance

def lowP (c : Int) : Prop := 97 ≤ c ∧ c ≤ 122
instance (c : Int) : Decidable (lowP c) := by unfold lowP; infer_instance

def nameFrom (l : List Int) (j : Nat) : Prop := (∀ (i : Nat) (h : i < l.length), j ≤ i → lowP l[i] ∨ (0 < i ∧ digP l[i])) ∧ 1 ≤ l.length ∧ l.length ≤ 8

def fieldsFrom (l : List S75) (j : Nat) : Prop := (∀ (i : Nat) (h : i < l.length), j ≤ i → nameFrom (bytesOf l[i].f0) 0 ∧ fieldP l[i] ∧ ∀ m (hm : m < i), l[m].f0 ≠ l[i].f0) ∧ 1 ≤ l.length ∧ l.length ≤ 4

open Classical in
noncomputable def fieldsB (l : List S75) : Bool := decide (fieldsFrom l 0)

def decN (u : Nat) : ByteArray := ⟨(Lib.decDigits u).toArray⟩

/-- A field as a text. -/
def fieldT (f : S75) : ByteArray := if f.f1 = 1 then (f.f0 ++ (⟨#[58, 116, 101, 120, 116, 58]⟩ : ByteArray)) ++ decN f.f2.toNat else if f.f1 = 2 then f.f0 ++ (⟨#[58, 110, 117, 109]⟩ : ByteArray) else f.f0 ++ (⟨#[58, 116, 97, 103]⟩ : ByteArray)

def sp : ByteArray := ⟨#[32]⟩

def joinT (xs : List ByteArray) (sep : ByteArray) : ByteArray := ⟨(Lib.join (xs.map (·.data.toList)) sep.data.toList).toArray⟩

noncomputable def fieldsPutB (l : List S75) : ByteArray := if fieldsB l = true then joinT (l.map fieldT) sp else ⟨#[]⟩

open Classical in
theorem fieldsB_iff {l : List S75} : fieldsB l = true ↔ fieldsFrom l 0 := by unfold fieldsB; exact decide_eq_true_iff

def goodField (f : S75) : Prop := fieldP f ∧ f.f0.size ≤ 8

theorem good_of_fields {l : List S75} (h : fieldsB l = true) : (∀ x ∈ l, goodField x) ∧ l.length ≤ 4 := by
  have h1 := fieldsB_iff.1 h
  refine ⟨fun x hx => ?_, h1.2.2⟩
  obtain ⟨i, hi, rfl⟩ := List.mem_iff_getElem.1 hx
  have h2 := h1.1 i hi (Nat.zero_le _)
  refine ⟨h2.2.1, ?_⟩
  have h3 := h2.1.2.2
  rw [bytesOf_length] at h3; exact h3

theorem decDigits_length (u : Nat) : (Lib.decDigits u).length = Lib.nDigits u := by rw [Lib.decDigits_eq, List.length_map, List.length_range]

theorem decN_size (u : Nat) : (decN u).size = Lib.nDigits u := by rw [← decDigits_length]; rfl

theorem nDigits_le : ∀ (k u : Nat), u < 10 ^ (k + 1) → Lib.nDigits u ≤ k + 1
  | 0, u, h => by rw [Lib.nDigits_small (by simpa using h)]; exact Nat.le_refl _
  | k + 1, u, h => by
    by_cases h1 : u < 10
    · rw [Lib.nDigits_small h1]; omega
    · rw [Lib.nDigits_big h1]
      have := nDigits_le k (u / 10) (by rw [Nat.pow_succ] at h; omega)
      omega

theorem decN_size_le (u : Nat) (h : u < 10 ^ 19) : (decN u).size ≤ 19 := by rw [decN_size]; exact nDigits_le 18 u h

theorem fieldT_size (f : S75) (h : goodField f) : (fieldT f).size ≤ 33 := by
  have h2 := h.2
  have z6 : (⟨#[58, 116, 101, 120, 116, 58]⟩ : ByteArray).size = 6 := rfl
  have z4 : (⟨#[58, 110, 117, 109]⟩ : ByteArray).size = 4 := rfl
  have z5 : (⟨#[58, 116, 97, 103]⟩ : ByteArray).size = 4 := rfl
  unfold fieldT
  split
  · have hp := h.1
    unfold fieldP at hp
    have := decN_size_le f.f2.toNat (by omega)
    rw [ByteArray.size_append, ByteArray.size_append, z6]; omega
  · split
    · rw [ByteArray.size_append, z4]; omega
    · rw [ByteArray.size_append, z5]; omega

theorem rdi_Field (l : List S75) (j : Nat) (h : j < l.length) : rd_T75 l (j : Int) = l[j] := by
  unfold rd_T75; simp [List.getD_eq_getElem?_getD, List.getElem?_eq_getElem h]

theorem drop_get {α : Type} (l : List α) (j : Nat) (h : j < l.length) : l.drop j = l[j] :: l.drop (j + 1) := List.drop_eq_getElem_cons h

theorem wrap_id {x : Int} (h0 : -9223372036854775808 ≤ x) (h1 : x ≤ 9223372036854775807) : wrap64 x = x := by unfold wrap64; omega

theorem wsucc (j : Nat) (h : j < 9223372036854775807) : wrap64 ((j : Int) + 1) = ((j + 1 : Nat) : Int) := by rw [wrap_id (by omega) (by omega)]; omega

theorem Itoa_eq (u : Nat) (hu : u ≤ 9223372036854775807) : strconv_Itoa.f (u : Int) = some (decN u) := by
  unfold strconv_Itoa.f
  rw [if_pos ⟨by omega, by omega⟩]
  unfold Lib.itoa
  rw [if_neg (by omega), Int.toNat_natCast]; rfl

theorem lens_le (m : Nat) : ∀ (xs : List ByteArray), (∀ x ∈ xs, x.size ≤ m) → Lib.lens (xs.map (·.data.toList)) ≤ m * xs.length
  | [], _ => by simp [Lib.lens]
  | x :: xs, h => by
    have h1 := lens_le m xs (fun y hy => h y (List.mem_cons_of_mem _ hy))
    have h2 := h x (List.mem_cons_self ..)
    have h3 : x.data.toList.length = x.size := rfl
    simp only [Lib.lens, List.map_cons, List.sum_cons, List.length_cons] at h1 ⊢
    rw [Nat.mul_succ]; omega

theorem Join_eq (xs : List ByteArray) (sep : ByteArray) (hl : xs.length ≤ 1000000) (hx : ∀ x ∈ xs, x.size ≤ 1000000) (hs : sep.size ≤ 10) : strings_Join.f xs sep = some (joinT xs sep) := by
  unfold strings_Join.f
  have hb : (Lib.join (xs.map (·.data.toList)) sep.data.toList).length ≤ 140737488355328 := by
    cases xs with
    | nil => simp [Lib.join_nil]
    | cons x xs =>
      rw [List.map_cons, Lib.join_cons, List.length_append, Lib.joinTail_length, List.length_map]
      have h1 := lens_le 1000000 xs (fun y hy => hx y (List.mem_cons_of_mem _ hy))
      have h2 := hx x (List.mem_cons_self ..)
      have h3 : x.data.toList.length = x.size := rfl
      have h4 : sep.data.toList.length = sep.size := rfl
      have h5 : sep.data.toList.length * xs.length ≤ 10 * xs.length := Nat.mul_le_mul_right _ (by omega)
      simp only [List.length_cons] at hl
      omega
  rw [if_pos ⟨by omega, hb⟩]; rfl

theorem impl_FieldsPut_l0 (l : List S75) (hn : l.length ≤ 4) (hg : ∀ x ∈ l, goodField x) : ∀ (d i : Nat) (acc : List ByteArray), i + d = l.length → acc.length ≤ i → (∀ x ∈ acc, x.size ≤ 33) →
    Ev (fun k => impl_FieldsPut.l0 k acc l (l.length : Int) (i : Int)) (joinT (acc ++ (l.drop i).map fieldT) sp) := by
  intro d
  induction d with
  | zero =>
    intro i acc hi ha hs
    refine Ev.step (fun k => impl_FieldsPut.l0.eq_2 _ _ _ _ _) ?_
    have hj := Join_eq acc sp (by omega) (fun x hx => by have := hs x hx; omega) (by decide)
    simp only [if_neg (show ¬ ((i : Int) < (l.length : Int)) by omega), show strings_Join.f acc (⟨#[32]⟩ : ByteArray) = some (joinT acc sp) from hj, Option.bind_some]
    rw [List.drop_eq_nil_of_le (by omega), List.map_nil, List.append_nil]; exact Ev.now _
  | succ d ih =>
    intro i acc hi ha hs
    have hgi := hg l[i] (List.getElem_mem _)
    have h2 := hgi.2
    have hz := fieldT_size l[i] hgi
    have hx := ih (i + 1) (acc ++ [fieldT l[i]]) (by omega) (by simp; omega) (fun x hx => by
      rcases List.mem_append.1 hx with h1 | h1
      · exact hs x h1
      · rw [List.mem_singleton.1 h1]; exact hz)
    rw [List.append_assoc] at hx
    have hq := hgi.1
    unfold fieldP at hq
    refine Ev.step (fun k => impl_FieldsPut.l0.eq_2 _ _ _ _ _) ?_
    rw [drop_get l i (by omega), List.map_cons]
    simp only [if_pos (show ((i : Int) < (l.length : Int)) by omega), if_pos (show 0 ≤ (i : Int) by omega), rdi_Field l i (by omega), wsucc i (by omega), if_pos (show acc.length < 8796093022208 by omega), if_pos (show l[i].f0.size + 6 ≤ 9223372036854775807 by omega), if_pos (show l[i].f0.size + 4 ≤ 9223372036854775807 by omega)]
    by_cases e1 : l[i].f1 = 1
    · have hi2 : strconv_Itoa.f l[i].f2 = some (decN l[i].f2.toNat) := by
        have := Itoa_eq l[i].f2.toNat (by omega)
        rwa [show ((l[i].f2.toNat : Nat) : Int) = l[i].f2 by omega] at this
      have hzd := decN_size_le l[i].f2.toNat (by omega)
      have z6 : (l[i].f0 ++ (⟨#[58, 116, 101, 120, 116, 58]⟩ : ByteArray)).size = l[i].f0.size + 6 := ByteArray.size_append
      have et : fieldT l[i] = (l[i].f0 ++ (⟨#[58, 116, 101, 120, 116, 58]⟩ : ByteArray)) ++ decN l[i].f2.toNat := by unfold fieldT; rw [if_pos e1]
      simp only [if_pos e1, hi2, Option.bind_some, z6, if_pos (show l[i].f0.size + 6 + (decN l[i].f2.toNat).size ≤ 9223372036854775807 by omega)]
      rw [← et]; exact hx
    · simp only [if_neg e1]
      by_cases e2 : l[i].f1 = 2
      · have et : fieldT l[i] = l[i].f0 ++ (⟨#[58, 110, 117, 109]⟩ : ByteArray) := by unfold fieldT; rw [if_neg e1, if_pos e2]
        simp only [if_pos e2]
        rw [← et]; exact hx
      · have et : fieldT l[i] = l[i].f0 ++ (⟨#[58, 116, 97, 103]⟩ : ByteArray) := by unfold fieldT; rw [if_neg e1, if_neg e2]
        simp only [if_neg e2]
        rw [← et]; exact hx

theorem fieldsFrom_end {l : List S75} {j : Nat} (hj : l.length ≤ j) : fieldsFrom l j ↔ 1 ≤ l.length ∧ l.length ≤ 4 := ⟨fun h => h.2, fun h => ⟨fun i hi hji => by omega, h⟩⟩

theorem fieldsFrom_step {l : List S75} {j : Nat} (hj : j < l.length) : fieldsFrom l j ↔ (nameFrom (bytesOf l[j].f0) 0 ∧ fieldP l[j] ∧ ∀ m (hm : m < j), l[m].f0 ≠ l[j].f0) ∧ fieldsFrom l (j + 1) := by
  constructor
  · rintro ⟨h, h2⟩
    exact ⟨h j hj (Nat.le_refl _), fun i hi hji => h i hi (by omega), h2⟩
  · rintro ⟨h, h1, h2⟩
    refine ⟨fun i hi hji => ?_, h2⟩
    rcases Nat.lt_or_ge j i with hlt | hge
    · exact h1 i hi hlt
    · obtain rfl : i = j := by omega
      exact h

open Classical in
noncomputable def nameB (l : List Int) : Bool := decide (nameFrom l 0)

open Classical in
theorem nameB_iff {l : List Int} : nameB l = true ↔ nameFrom l 0 := by unfold nameB; exact decide_eq_true_iff

theorem ev_eq {α : Type} {g : Nat → Option α} {r : α} (h : ∀ k, g k = some r) : Ev g r := ⟨0, fun k _ => h k⟩

theorem ev_false {g : Nat → Option Bool} {p : Prop} [Decidable p] (h : ¬ p) (k : Ev g false) : Ev g (decide p) := by
  rw [decide_eq_false h]; exact k

theorem ev_prop {g : Nat → Option Bool} {p q : Prop} [Decidable p] [Decidable q] (h : p ↔ q) (k : Ev g (decide p)) : Ev g (decide q) := by
  have : decide p = decide q := decide_eq_decide.2 h
  rw [← this]; exact k

theorem nameFrom_end {l : List Int} {j : Nat} (hj : l.length ≤ j) : nameFrom l j ↔ 1 ≤ l.length ∧ l.length ≤ 8 := ⟨fun h => h.2, fun h => ⟨fun i hi hji => by omega, h⟩⟩

theorem nameFrom_step {l : List Int} {j : Nat} (hj : j < l.length) : nameFrom l j ↔ (lowP l[j] ∨ (0 < j ∧ digP l[j])) ∧ nameFrom l (j + 1) := by
  constructor
  · rintro ⟨h, h2⟩
    exact ⟨h j hj (Nat.le_refl _), fun i hi hji => h i hi (by omega), h2⟩
  · rintro ⟨h, h1, h2⟩
    refine ⟨fun i hi hji => ?_, h2⟩
    rcases Nat.lt_or_ge j i with hlt | hge
    · exact h1 i hi hlt
    · obtain rfl : i = j := by omega
      exact h

theorem rd_get (l : List Int) (j : Nat) (h : j < l.length) : rd l (j : Int) = l[j] := by
  unfold rd; simp [List.getD_eq_getElem?_getD, List.getElem?_eq_getElem h]

theorem bt_get (s : ByteArray) (j : Nat) (h : j < (bytesOf s).length) : bt s (j : Int) = (bytesOf s)[j] := by
  rw [← rd_bytesOf, rd_get _ _ h]

theorem impl_digit_eq (a : Int) : impl_digit.f a = some (decide (digP a)) := by
  unfold impl_digit.f digP
  by_cases h : a ≥ 48
  · rw [if_pos h]; congr 1; exact decide_eq_decide.2 (by omega)
  · rw [if_neg h]; congr 1; symm; exact decide_eq_false (by omega)

theorem impl_lower_eq (a : Int) : impl_lower.f a = some (decide (lowP a)) := by
  unfold impl_lower.f lowP
  by_cases h : a ≥ 97
  · rw [if_pos h]; congr 1; exact decide_eq_decide.2 (by omega)
  · rw [if_neg h]; congr 1; symm; exact decide_eq_false (by omega)

theorem impl_within_eq (a b c : Int) : impl_within.f a b c = some (decide (b ≤ a ∧ a ≤ c)) := by
  unfold impl_within.f
  by_cases h : a ≥ b
  · rw [if_pos h]; congr 1; exact decide_eq_decide.2 ⟨fun h2 => ⟨h, h2⟩, fun h2 => h2.2⟩
  · rw [if_neg h]; congr 1; symm; exact decide_eq_false (fun h2 => h h2.1)

open Classical in
theorem impl_NameOk_l0 (s : ByteArray) (hn : s.size < 4611686018427387904) : ∀ (d i : Nat), i + d = s.size → Ev (fun k => impl_NameOk.l0 k s (s.size : Int) (i : Int)) (decide (nameFrom (bytesOf s) i)) := by
  have hb := bytesOf_length s
  intro d
  induction d with
  | zero =>
    intro i hi
    refine Ev.step (fun k => impl_NameOk.l0.eq_2 _ _ _ _) ?_
    simp only [if_neg (show ¬ ((i : Int) < (s.size : Int)) by omega), impl_within_eq, Option.bind_some]
    refine ev_prop (nameFrom_end (by omega)).symm ?_
    refine ev_eq fun _ => ?_
    congr 1; exact decide_eq_decide.2 (by omega)
  | succ d ih =>
    intro i hi
    have hs := nameFrom_step (l := bytesOf s) (j := i) (by omega)
    refine Ev.step (fun k => impl_NameOk.l0.eq_2 _ _ _ _) ?_
    simp only [if_pos (show ((i : Int) < (s.size : Int)) by omega), if_pos (show 0 ≤ (i : Int) by omega), wsucc i (by omega), bt_get s i (by omega), impl_lower_eq, impl_digit_eq, Option.bind_some, decide_eq_true_eq]
    by_cases h1 : lowP (bytesOf s)[i]
    · simp only [if_pos h1]
      exact ev_prop (hs.trans ⟨fun h => h.2, fun h => ⟨.inl h1, h⟩⟩).symm (ih (i + 1) (by omega))
    · simp only [if_neg h1]
      by_cases h0 : (i : Int) = 0
      · simp only [if_pos h0]
        have : decide (nameFrom (bytesOf s) i) = false := decide_eq_false (fun h => by rcases (hs.1 h).1 with h2 | h2; exact h1 h2; omega)
        rw [this]; exact Ev.now _
      · simp only [if_neg h0]
        by_cases h2 : digP (bytesOf s)[i]
        · simp only [if_pos h2]
          exact ev_prop (hs.trans ⟨fun h => h.2, fun h => ⟨.inr ⟨by omega, h2⟩, h⟩⟩).symm (ih (i + 1) (by omega))
        · simp only [if_neg h2]
          have : decide (nameFrom (bytesOf s) i) = false := decide_eq_false (fun h => by rcases (hs.1 h).1 with h3 | h3; exact h1 h3; exact h2 h3.2)
          rw [this]; exact Ev.now _

theorem impl_NameOk_ev (s : ByteArray) (hn : s.size < 4611686018427387904) : Ev (fun k => impl_NameOk.f k s) (nameB (bytesOf s)) := impl_NameOk_l0 s hn s.size 0 (by omega)

theorem mem_drop_step {α : Type} {l : List α} {j : Nat} {n : α} (h : j < l.length) : n ∈ l.drop j ↔ n = l[j] ∨ n ∈ l.drop (j + 1) := by
  rw [List.drop_eq_getElem_cons h, List.mem_cons]

theorem toList_data (s : ByteArray) : s.toList = s.data.toList := by
  exact ByteArray.toList_eq s

theorem toList_inj {a b : ByteArray} : a.toList = b.toList ↔ a = b := by
  rw [toList_data, toList_data]
  constructor
  · intro h; exact ByteArray.ext (Array.toList_inj.1 h)
  · rintro rfl; rfl

theorem rdOf_get {α : Type} (d : α) (l : List α) (j : Nat) (h : j < l.length) : rdOf d l (j : Int) = l[j] := by
  unfold rdOf; simp [List.getD_eq_getElem?_getD, List.getElem?_eq_getElem h]

theorem rdOf_str (l : List ByteArray) (j : Nat) (h : j < l.length) : rdOf ByteArray.empty l (j : Int) = l[j] := rdOf_get _ l j h

open Classical in
theorem slices_Index_string_string_l0 (l : List ByteArray) (n : ByteArray) (hn : l.length < 4611686018427387904) : ∀ (d i : Nat), i + d = l.length → ∃ r : Int, Ev (fun k => slices_Index_string_string.l0 k l n (l.length : Int) (i : Int)) r ∧ decide (r ≥ 0) = decide (n ∈ l.drop i) := by
  intro d
  induction d with
  | zero =>
    intro i hi
    refine ⟨-1, Ev.step (fun k => slices_Index_string_string.l0.eq_2 _ _ _ _ _) ?_, ?_⟩
    · simp only [if_neg (show ¬ ((i : Int) < (l.length : Int)) by omega)]
      exact Ev.now _
    · rw [List.drop_of_length_le (by omega)]; simp
  | succ d ih =>
    intro i hi
    have hs := mem_drop_step (l := l) (n := n) (show i < l.length by omega)
    by_cases h : n = l[i]
    · refine ⟨(i : Int), Ev.step (fun k => slices_Index_string_string.l0.eq_2 _ _ _ _ _) ?_, ?_⟩
      · simp only [if_pos (show ((i : Int) < (l.length : Int)) by omega), if_pos (show 0 ≤ (i : Int) by omega), rdOf_str l i (by omega), toList_inj, if_pos h]
        exact Ev.now _
      · rw [decide_eq_true (hs.2 (.inl h))]; simp
    · obtain ⟨r, h1, h2⟩ := ih (i + 1) (by omega)
      refine ⟨r, Ev.step (fun k => slices_Index_string_string.l0.eq_2 _ _ _ _ _) ?_, ?_⟩
      · simp only [if_pos (show ((i : Int) < (l.length : Int)) by omega), if_pos (show 0 ≤ (i : Int) by omega), rdOf_str l i (by omega), toList_inj, if_neg h, wsucc i (by omega)]
        exact h1
      · rw [h2]; exact decide_eq_decide.2 (hs.trans ⟨fun h1 => h1.resolve_left h, .inr⟩).symm

open Classical in
theorem slices_Contains_string_string_ev (l : List ByteArray) (n : ByteArray) (hn : l.length < 4611686018427387904) : Ev (fun k => slices_Contains_string_string.f k l n) (decide (n ∈ l)) := by
  obtain ⟨r, h1, h2⟩ := slices_Index_string_string_l0 l n hn l.length 0 (by omega)
  simp only [slices_Contains_string_string.f]
  refine Ev.bind (a := r) h1 ?_
  rw [h2]; exact Ev.now _

open Classical in
theorem impl_FieldsOk_l0 (l : List S75) (hn : l.length ≤ 1048577) (hs : ∀ x ∈ l, x.f0.size ≤ 1048576) : ∀ (d i : Nat), i + d = l.length →
    Ev (fun k => impl_FieldsOk.l0 k l ((l.take i).map (fun x => x.f0)) l (l.length : Int) (i : Int)) (decide (fieldsFrom l i)) := by
  intro d
  induction d with
  | zero =>
    intro i hi
    refine Ev.step (fun k => impl_FieldsOk.l0.eq_2 _ _ _ _ _ _) ?_
    simp only [if_neg (show ¬ ((i : Int) < (l.length : Int)) by omega), impl_within_eq, Option.bind_some]
    refine ev_prop (fieldsFrom_end (by omega)).symm ?_
    refine ev_eq fun _ => ?_
    congr 1; exact decide_eq_decide.2 (by omega)
  | succ d ih =>
    intro i hi
    have hst := fieldsFrom_step (l := l) (j := i) (by omega)
    have hsz := hs l[i] (List.getElem_mem _)
    have hlen : ((l.take i).map (fun x => x.f0)).length = i := by rw [List.length_map, List.length_take]; omega
    have hmem : l[i].f0 ∈ (l.take i).map (fun x => x.f0) ↔ ∃ m, ∃ hm : m < i, l[m].f0 = l[i].f0 := by
      rw [List.mem_map]
      constructor
      · rintro ⟨x, hx, he⟩
        obtain ⟨m, hm, rfl⟩ := List.mem_iff_getElem.1 hx
        rw [List.length_take] at hm
        exact ⟨m, by omega, by rw [← he, List.getElem_take]⟩
      · rintro ⟨m, hm, he⟩
        exact ⟨l[m], List.mem_iff_getElem.2 ⟨m, by rw [List.length_take]; omega, by rw [List.getElem_take]⟩, he⟩
    have hnx : (l.take (i + 1)).map (fun x => x.f0) = (l.take i).map (fun x => x.f0) ++ [l[i].f0] := by
      rw [List.take_add_one, List.getElem?_eq_getElem (by omega), List.map_append]; rfl
    refine Ev.step (fun k => impl_FieldsOk.l0.eq_2 _ _ _ _ _ _) ?_
    simp only [if_pos (show ((i : Int) < (l.length : Int)) by omega), if_pos (show 0 ≤ (i : Int) by omega), rdi_Field l i (by omega), impl_within_eq, Option.bind_some]
    have hj1 : ∀ (t : Bool), ((t = true ∧ 1 ≤ l[i].f1 ∧ l[i].f1 ≤ 3) ↔ fieldP l[i]) → Ev (fun k => impl_FieldsOk.j1 k l ((l.take i).map (fun x => x.f0)) t l (l.length : Int) (i : Int) l[i].f0 l[i].f1 l[i].f2) (decide (fieldsFrom l i)) := by
      intro t ht
      refine Ev.step (fun k => impl_FieldsOk.j1.eq_2 _ _ _ _ _ _ _ _ _ _) ?_
      refine Ev.bind (impl_NameOk_ev l[i].f0 (by omega)) ?_
      cases hnm : nameB (bytesOf l[i].f0) with
      | false =>
        simp only [if_neg (show ¬ (false = true) by decide)]
        refine ev_false (fun h => ?_) (Ev.now _)
        have := nameB_iff.2 (hst.1 h).1.1
        rw [hnm] at this; cases this
      | true =>
        simp only [if_true]
        refine Ev.bind (slices_Contains_string_string_ev _ _ (by rw [hlen]; omega)) ?_
        simp only [decide_eq_true_eq, impl_within_eq, Option.bind_some]
        by_cases hc : l[i].f0 ∈ (l.take i).map (fun x => x.f0)
        · simp only [if_pos hc]
          obtain ⟨m, hm, he⟩ := hmem.1 hc
          exact ev_false (fun h => (hst.1 h).1.2.2 m hm he) (Ev.now _)
        · simp only [if_neg hc]
          by_cases hp : fieldP l[i]
          · obtain ⟨h1, h2⟩ := ht.2 hp
            simp only [if_pos h2, h1, if_true, hlen, if_pos (show i < 8796093022208 by omega), wsucc i (by omega)]
            have hnext := ih (i + 1) (by omega)
            rw [hnx] at hnext
            exact ev_prop (hst.trans ⟨fun h => h.2, fun h => ⟨⟨nameB_iff.1 hnm, hp, fun m hm he => hc (hmem.2 ⟨m, hm, he⟩)⟩, h⟩⟩).symm hnext
          · have hf : Ev (fun _ => some false) (decide (fieldsFrom l i)) := ev_false (fun h => hp (hst.1 h).1.2.1) (Ev.now _)
            by_cases h2 : 1 ≤ l[i].f1 ∧ l[i].f1 ≤ 3
            · have h1 : t = false := by
                cases t
                · rfl
                · exact absurd (ht.1 ⟨rfl, h2⟩) hp
              simp only [if_pos h2, h1, if_neg (show ¬ (false = true) by decide)]; exact hf
            · simp only [if_neg h2]; exact hf
    by_cases h1 : l[i].f1 = 1
    · simp only [if_pos h1]
      refine hj1 _ ?_
      unfold fieldP
      rw [decide_eq_true_eq]
      constructor
      · intro h; exact .inl ⟨h1, h.1⟩
      · intro h
        rcases h with h | h
        · exact ⟨h.2, by omega, by omega⟩
        · omega
    · simp only [if_neg h1]
      refine hj1 _ ?_
      unfold fieldP
      rw [beq_iff_eq]
      constructor
      · intro h; exact .inr ⟨by omega, h.2.2, h.1⟩
      · intro h
        rcases h with h | h
        · exact absurd h.1 h1
        · exact ⟨h.2.2, by omega, h.2.1⟩

theorem impl_FieldsOk_ev (l : List S75) (hn : l.length ≤ 1048577) (hs : ∀ x ∈ l, x.f0.size ≤ 1048576) : Ev (fun k => impl_FieldsOk.f k l) (fieldsB l) := impl_FieldsOk_l0 l hn hs l.length 0 (by omega)

theorem impl_FieldsPut_ev (l : List S75) (hn : l.length ≤ 1048577) (hs : ∀ x ∈ l, x.f0.size ≤ 1048576) : Ev (fun k => impl_FieldsPut.f k l) (fieldsPutB l) := by
  simp only [impl_FieldsPut.f, fieldsPutB]
  refine Ev.bind (impl_FieldsOk_ev l (by omega) hs) ?_
  cases h : fieldsB l with
  | false => exact Ev.now _
  | true =>
    obtain ⟨h1, h2⟩ := good_of_fields h
    simp only [if_true]
    exact impl_FieldsPut_l0 l h2 h1 l.length 0 [] (by omega) (by simp) (fun x hx => by simp at hx)

def kindWords : List ByteArray := [(⟨#[]⟩ : ByteArray), (⟨#[116, 101, 120, 116]⟩ : ByteArray), (⟨#[110, 117, 109]⟩ : ByteArray), (⟨#[116, 97, 103]⟩ : ByteArray)]

theorem sz1 (c : UInt8) : (⟨#[c]⟩ : ByteArray).size = 1 := rfl

theorem mk_append (a b : List UInt8) : (⟨a.toArray⟩ : ByteArray) ++ (⟨b.toArray⟩ : ByteArray) = ⟨(a ++ b).toArray⟩ := by
  apply ByteArray.ext
  rw [ByteArray.data_append]
  simp

theorem bytesOf_inj {a b : ByteArray} (h : bytesOf a = bytesOf b) : a = b := by
  have h1 : a.data.toList = b.data.toList := by
    have hl : a.data.toList.length = b.data.toList.length := by
      have := congrArg List.length h
      simpa [bytesOf] using this
    apply List.ext_getElem hl
    intro i h1 h2
    have h3 : (bytesOf a)[i]? = (bytesOf b)[i]? := by rw [h]
    simp only [bytesOf, List.getElem?_map, List.getElem?_eq_getElem h1, List.getElem?_eq_getElem h2, Option.map_some, Option.some.injEq] at h3
    exact UInt8.toNat_inj.1 (by omega)
  exact ByteArray.ext (Array.toList_inj.1 h1)

theorem bytesOf_strOfNums (l : List Int) (h : ∀ c ∈ l, 0 ≤ c ∧ c ≤ 255) : bytesOf (strOfNums l) = l := by
  unfold bytesOf
  rw [strOfNums_data, List.map_map]
  conv => rhs; rw [← List.map_id l]
  apply List.map_congr_left
  intro c hc
  have := h c hc
  simp only [Function.comp, id]
  rw [UInt8.toNat_ofNat']
  omega

theorem strOf_digit (u : Nat) (h : u < 10) (c : Int) (hc : c = 48 + (u : Int)) : strOfNums [c] = (⟨[UInt8.ofNat (48 + u)].toArray⟩ : ByteArray) := by
  subst hc
  apply bytesOf_inj
  rw [bytesOf_strOfNums _ (by intro c hc; rw [List.mem_singleton] at hc; omega)]
  have : bytesOf (⟨[UInt8.ofNat (48 + u)].toArray⟩ : ByteArray) = [((UInt8.ofNat (48 + u)).toNat : Int)] := rfl
  rw [this]
  have h2 : (UInt8.ofNat (48 + u)).toNat = 48 + u := by
    rw [UInt8.toNat_ofNat']
    exact Nat.mod_eq_of_lt (by omega)
  rw [h2]; rfl

theorem spec_l1Dec_ev (u : Nat) : u ≤ 9223372036854775807 → Ev (fun k => spec_l1Dec.f k (u : Int)) (decN u) := by
  induction u using Nat.strongRecOn with
  | _ u ih =>
    intro hu
    refine Ev.step (fun k => spec_l1Dec.f.eq_2 _ _) ?_
    simp only [if_neg (show ¬ ((u : Int) < (-9223372036854775807)) by omega), if_neg (show ¬ ((u : Int) < 0) by omega)]
    by_cases h : u < 10
    · simp only [if_pos (show (u : Int) < 10 by omega), wrap_id (x := 48 + (u : Int)) (by omega) (by omega)]
      rw [strOf_digit u h _ (by omega)]
      have e : decN u = (⟨[UInt8.ofNat (48 + u)].toArray⟩ : ByteArray) := by unfold decN; rw [Lib.decDigits, dif_pos h]
      rw [e]; exact Ev.now _
    · have e1 : Int.tdiv (u : Int) 10 = ((u / 10 : Nat) : Int) := by rw [Int.tdiv_eq_ediv_of_nonneg (by omega)]; omega
      have e2 : Int.tmod (u : Int) 10 = ((u % 10 : Nat) : Int) := by rw [Int.tmod_eq_emod_of_nonneg (by omega)]; omega
      simp only [if_neg (show ¬ ((u : Int) < 10) by omega), e1, e2, wrap_id (x := ((u / 10 : Nat) : Int)) (by omega) (by omega), wrap_id (x := 48 + ((u % 10 : Nat) : Int)) (by omega) (by omega)]
      refine Ev.bind (ih (u / 10) (by omega) (by omega)) ?_
      have hz := decN_size_le (u / 10) (by omega)
      have es := strOf_digit (u % 10) (by omega) ((48 + ((u % 10 : Nat) : Int)) % 256) (by omega)
      have z1 : (⟨[UInt8.ofNat (48 + u % 10)].toArray⟩ : ByteArray).size = 1 := rfl
      simp only [Option.bind_some, es, z1, if_pos (show (decN (u / 10)).size + 1 ≤ 9223372036854775807 by omega)]
      have e : decN u = decN (u / 10) ++ (⟨[UInt8.ofNat (48 + u % 10)].toArray⟩ : ByteArray) := by
        unfold decN
        rw [mk_append]
        conv => lhs; rw [Lib.decDigits, dif_neg h]
      rw [e]; exact Ev.now _

theorem l2Put_tail (l : List S75) (i : Nat) (p : ByteArray) (f : S75) (hp : p.size ≤ 2000) (hf : goodField f) (R : ByteArray) (h : Ev (fun k => spec_l2Put.l0 k l kindWords (p ++ fieldT f) ((i + 1 : Nat) : Int)) R) :
    Ev (fun k => if p.size + f.f0.size ≤ 9223372036854775807 then (if (p ++ f.f0).size + 1 ≤ 9223372036854775807 then (if 0 ≤ f.f1 then (if f.f1 < (kindWords.length : Int) then (if ((p ++ f.f0) ++ (⟨#[58]⟩ : ByteArray)).size + (rdOf ByteArray.empty kindWords f.f1).size ≤ 9223372036854775807 then (if f.f1 = 1 then (if (((p ++ f.f0) ++ (⟨#[58]⟩ : ByteArray)) ++ (rdOf ByteArray.empty kindWords f.f1)).size + 1 ≤ 9223372036854775807 then ((spec_l1Dec.f k f.f2).bind fun t => (if ((((p ++ f.f0) ++ (⟨#[58]⟩ : ByteArray)) ++ (rdOf ByteArray.empty kindWords f.f1)) ++ (⟨#[58]⟩ : ByteArray)).size + t.size ≤ 9223372036854775807 then (spec_l2Put.l0 k l kindWords (((((p ++ f.f0) ++ (⟨#[58]⟩ : ByteArray)) ++ (rdOf ByteArray.empty kindWords f.f1)) ++ (⟨#[58]⟩ : ByteArray)) ++ t) ((i + 1 : Nat) : Int)) else (none))) else (none)) else (spec_l2Put.l0 k l kindWords (((p ++ f.f0) ++ (⟨#[58]⟩ : ByteArray)) ++ (rdOf ByteArray.empty kindWords f.f1)) ((i + 1 : Nat) : Int))) else (none)) else (none)) else (none)) else (none)) else (none)) R := by
  have h2 := hf.2
  have hq := hf.1
  unfold fieldP at hq
  have hk : (kindWords.length : Int) = 4 := rfl
  have z1 : (p ++ f.f0).size = p.size + f.f0.size := ByteArray.size_append
  have z2 : ((p ++ f.f0) ++ (⟨#[58]⟩ : ByteArray)).size = p.size + f.f0.size + 1 := by rw [ByteArray.size_append, z1, sz1]
  simp only [if_pos (show p.size + f.f0.size ≤ 9223372036854775807 by omega), z1, if_pos (show p.size + f.f0.size + 1 ≤ 9223372036854775807 by omega), hk, if_pos (show 0 ≤ f.f1 by omega), if_pos (show f.f1 < 4 by omega), z2]
  by_cases e1 : f.f1 = 1
  · have er : rdOf ByteArray.empty kindWords f.f1 = (⟨#[116, 101, 120, 116]⟩ : ByteArray) := by rw [e1]; rfl
    have zr : (⟨#[116, 101, 120, 116]⟩ : ByteArray).size = 4 := rfl
    have z3 : (((p ++ f.f0) ++ (⟨#[58]⟩ : ByteArray)) ++ (⟨#[116, 101, 120, 116]⟩ : ByteArray)).size = p.size + f.f0.size + 1 + 4 := by rw [ByteArray.size_append, z2, zr]
    have z4 : ((((p ++ f.f0) ++ (⟨#[58]⟩ : ByteArray)) ++ (⟨#[116, 101, 120, 116]⟩ : ByteArray)) ++ (⟨#[58]⟩ : ByteArray)).size = p.size + f.f0.size + 1 + 4 + 1 := by rw [ByteArray.size_append, z3, sz1]
    have hn : f.f2 = ((f.f2.toNat : Nat) : Int) := by omega
    have hz := decN_size_le f.f2.toNat (by omega)
    simp only [er, zr, if_pos (show p.size + f.f0.size + 1 + 4 ≤ 9223372036854775807 by omega), if_pos e1, z3, if_pos (show p.size + f.f0.size + 1 + 4 + 1 ≤ 9223372036854775807 by omega)]
    have hd := spec_l1Dec_ev f.f2.toNat (by omega)
    rw [← hn] at hd
    refine Ev.bind hd ?_
    simp only [z4, if_pos (show p.size + f.f0.size + 1 + 4 + 1 + (decN f.f2.toNat).size ≤ 9223372036854775807 by omega)]
    have e : ((((p ++ f.f0) ++ (⟨#[58]⟩ : ByteArray)) ++ (⟨#[116, 101, 120, 116]⟩ : ByteArray)) ++ (⟨#[58]⟩ : ByteArray)) ++ decN f.f2.toNat = p ++ fieldT f := by
      unfold fieldT
      have e58 : (⟨#[58, 116, 101, 120, 116, 58]⟩ : ByteArray) = ((⟨#[58]⟩ : ByteArray) ++ (⟨#[116, 101, 120, 116]⟩ : ByteArray)) ++ (⟨#[58]⟩ : ByteArray) := rfl
      rw [if_pos e1, e58]
      simp only [ByteArray.append_assoc]
    rw [e]; exact h
  · have e2 : f.f1 = 2 ∨ f.f1 = 3 := by omega
    rcases e2 with e2 | e2
    · have er : rdOf ByteArray.empty kindWords f.f1 = (⟨#[110, 117, 109]⟩ : ByteArray) := by rw [e2]; rfl
      have zr : (⟨#[110, 117, 109]⟩ : ByteArray).size = 3 := rfl
      simp only [er, zr, if_pos (show p.size + f.f0.size + 1 + 3 ≤ 9223372036854775807 by omega), if_neg e1]
      have e : ((p ++ f.f0) ++ (⟨#[58]⟩ : ByteArray)) ++ (⟨#[110, 117, 109]⟩ : ByteArray) = p ++ fieldT f := by
        unfold fieldT
        have e58 : (⟨#[58, 110, 117, 109]⟩ : ByteArray) = (⟨#[58]⟩ : ByteArray) ++ (⟨#[110, 117, 109]⟩ : ByteArray) := rfl
        rw [if_neg e1, if_pos e2, e58]
        simp only [ByteArray.append_assoc]
      rw [e]; exact h
    · have er : rdOf ByteArray.empty kindWords f.f1 = (⟨#[116, 97, 103]⟩ : ByteArray) := by rw [e2]; rfl
      have zr : (⟨#[116, 97, 103]⟩ : ByteArray).size = 3 := rfl
      simp only [er, zr, if_pos (show p.size + f.f0.size + 1 + 3 ≤ 9223372036854775807 by omega), if_neg e1]
      have e : ((p ++ f.f0) ++ (⟨#[58]⟩ : ByteArray)) ++ (⟨#[116, 97, 103]⟩ : ByteArray) = p ++ fieldT f := by
        unfold fieldT
        have e58 : (⟨#[58, 116, 97, 103]⟩ : ByteArray) = (⟨#[58]⟩ : ByteArray) ++ (⟨#[116, 97, 103]⟩ : ByteArray) := rfl
        rw [if_neg e1, if_neg (by omega), e58]
        simp only [ByteArray.append_assoc]
      rw [e]; exact h

theorem mk_append2 (a b : List UInt8) : (⟨(a ++ b).toArray⟩ : ByteArray) = (⟨a.toArray⟩ : ByteArray) ++ (⟨b.toArray⟩ : ByteArray) := by
  apply ByteArray.ext
  rw [ByteArray.data_append]
  simp

theorem mk_data (x : ByteArray) : (⟨x.data.toList.toArray⟩ : ByteArray) = x := by cases x; rfl

def tailT (xs : List ByteArray) (sep : ByteArray) : ByteArray := ⟨(Lib.joinTail sep.data.toList (xs.map (·.data.toList))).toArray⟩

theorem joinT_cons (x : ByteArray) (xs : List ByteArray) (sep : ByteArray) : joinT (x :: xs) sep = x ++ tailT xs sep := by
  unfold joinT tailT
  rw [List.map_cons, Lib.join_cons, mk_append2, mk_data]

theorem joinT_nil (sep : ByteArray) : joinT [] sep = ⟨#[]⟩ := rfl

theorem tailT_cons (x : ByteArray) (xs : List ByteArray) (sep : ByteArray) : tailT (x :: xs) sep = (sep ++ x) ++ tailT xs sep := by
  unfold tailT Lib.joinTail
  rw [List.map_cons, List.map_cons, List.flatten_cons, mk_append2, mk_append2, mk_data, mk_data]

theorem tailT_nil (sep : ByteArray) : tailT [] sep = ⟨#[]⟩ := rfl

theorem spec_l2Put_l0 (l : List S75) (hn : l.length ≤ 4) (hg : ∀ x ∈ l, goodField x) : ∀ (d i : Nat) (acc : ByteArray), i + d = l.length → acc.size + 40 * d ≤ 1000 →
    Ev (fun k => spec_l2Put.l0 k l kindWords acc (i : Int)) (if 0 < i then acc ++ tailT ((l.drop i).map fieldT) sp else acc ++ joinT ((l.drop i).map fieldT) sp) := by
  intro d
  induction d with
  | zero =>
    intro i acc hi ha
    refine Ev.step (fun k => spec_l2Put.l0.eq_2 _ _ _ _ _) ?_
    simp only [if_neg (show ¬ ((i : Int) < (l.length : Int)) by omega)]
    rw [List.drop_eq_nil_of_le (by omega), List.map_nil, tailT_nil, joinT_nil]
    have : acc ++ (⟨#[]⟩ : ByteArray) = acc := ByteArray.append_empty
    rw [this, ite_self]; exact Ev.now _
  | succ d ih =>
    intro i acc hi ha
    have hgi := hg l[i] (List.getElem_mem _)
    have hz := fieldT_size l[i] hgi
    have zs : sp.size = 1 := rfl
    refine Ev.step (fun k => spec_l2Put.l0.eq_2 _ _ _ _ _) ?_
    rw [drop_get l i (by omega), List.map_cons]
    by_cases hp : 0 < i
    · have z1 : (acc ++ sp).size = acc.size + 1 := by rw [ByteArray.size_append, zs]
      have hx := ih (i + 1) ((acc ++ sp) ++ fieldT l[i]) (by omega) (by rw [ByteArray.size_append, z1]; omega)
      rw [if_pos (show 0 < i + 1 by omega)] at hx
      have ht := l2Put_tail l i (acc ++ sp) l[i] (by omega) hgi _ hx
      simp only [if_pos (show ((i : Int) < (l.length : Int)) by omega), if_pos (show (i : Int) > 0 by omega), if_pos (show acc.size + 1 ≤ 9223372036854775807 by omega), if_pos (show 0 ≤ (i : Int) by omega), rdi_Field l i (by omega), wsucc i (by omega), if_pos hp, tailT_cons]
      have e : acc ++ ((sp ++ fieldT l[i]) ++ tailT ((l.drop (i + 1)).map fieldT) sp) = ((acc ++ sp) ++ fieldT l[i]) ++ tailT ((l.drop (i + 1)).map fieldT) sp := by
        rw [← ByteArray.append_assoc, ← ByteArray.append_assoc]
      rw [e]; exact ht
    · obtain rfl : i = 0 := by omega
      have hx := ih 1 (acc ++ fieldT l[0]) (by omega) (by rw [ByteArray.size_append]; omega)
      rw [if_pos (show 0 < 1 by omega)] at hx
      have ht := l2Put_tail l 0 acc l[0] (by omega) hgi _ hx
      simp only [if_pos (show (((0 : Nat) : Int) < (l.length : Int)) by omega), if_neg (show ¬ (((0 : Nat) : Int) > 0) by omega), if_pos (show 0 ≤ ((0 : Nat) : Int) by omega), rdi_Field l 0 (by omega), wsucc 0 (by omega), if_neg hp, joinT_cons]
      rw [← ByteArray.append_assoc]; exact ht

theorem spec_l2Field_l0 (l : List S75) (n : ByteArray) (hn : l.length < 4611686018427387904) : ∀ (d i : Nat), i + d = l.length → (∀ m (hm : m < l.length), m < i → l[m].f0 ≠ n) →
    ∃ r, Ev (fun k => spec_l2Field.l0 k l n (i : Int)) r ∧ ((r = -1 ∧ ∀ x ∈ l, x.f0 ≠ n) ∨ ∃ (j : Nat) (hj : j < l.length), r = (j : Int) ∧ l[j].f0 = n ∧ ∀ m (hm : m < j), l[m].f0 ≠ n) := by
  intro d
  induction d with
  | zero =>
    intro i hi hb
    refine ⟨-1, Ev.step (fun k => spec_l2Field.l0.eq_2 _ _ _ _) ?_, .inl ⟨rfl, fun x hx => ?_⟩⟩
    · simp only [if_neg (show ¬ ((i : Int) < (l.length : Int)) by omega)]; exact Ev.now _
    · obtain ⟨m, hm, rfl⟩ := List.mem_iff_getElem.1 hx
      exact hb m hm (by omega)
  | succ d ih =>
    intro i hi hb
    by_cases h : l[i].f0 = n
    · refine ⟨(i : Int), Ev.step (fun k => spec_l2Field.l0.eq_2 _ _ _ _) ?_, .inr ⟨i, by omega, rfl, h, fun m hm => hb m (by omega) hm⟩⟩
      simp only [if_pos (show ((i : Int) < (l.length : Int)) by omega), if_pos (show 0 ≤ (i : Int) by omega), rdi_Field l i (by omega), toList_inj, if_pos h]
      exact Ev.now _
    · obtain ⟨r, hr, hq⟩ := ih (i + 1) (by omega) (fun m hm hlt => by
        rcases Nat.lt_or_ge m i with h1 | h1
        · exact hb m hm h1
        · obtain rfl : m = i := by omega
          exact h)
      refine ⟨r, Ev.step (fun k => spec_l2Field.l0.eq_2 _ _ _ _) ?_, hq⟩
      simp only [if_pos (show ((i : Int) < (l.length : Int)) by omega), if_pos (show 0 ≤ (i : Int) by omega), rdi_Field l i (by omega), toList_inj, if_neg h, wsucc i (by omega)]
      exact hr

theorem spec_l2Field_ev (l : List S75) (n : ByteArray) (hn : l.length < 4611686018427387904) :
    ∃ r, Ev (fun k => spec_l2Field.f k l n) r ∧ ((r = -1 ∧ ∀ x ∈ l, x.f0 ≠ n) ∨ ∃ (j : Nat) (hj : j < l.length), r = (j : Int) ∧ l[j].f0 = n ∧ ∀ m (hm : m < j), l[m].f0 ≠ n) :=
  spec_l2Field_l0 l n hn l.length 0 (by omega) (fun m hm h => absurd h (by omega))

theorem spec_l1In_eq (a b c : Int) : spec_l1In.f a b c = some (decide (b ≤ a ∧ a ≤ c)) := by
  unfold spec_l1In.f
  by_cases h : a ≥ b
  · rw [if_pos h]; congr 1; exact decide_eq_decide.2 ⟨fun h2 => ⟨h, h2⟩, fun h2 => h2.2⟩
  · rw [if_neg h]; congr 1; symm; exact decide_eq_false (fun h2 => h h2.1)

open Classical in
theorem spec_NameOk_l0 (s : ByteArray) (hn : s.size < 4611686018427387904) : ∀ (d i : Nat), i + d = s.size → Ev (fun k => spec_NameOk.l0 k s (i : Int)) (decide (nameFrom (bytesOf s) i)) := by
  have hb := bytesOf_length s
  intro d
  induction d with
  | zero =>
    intro i hi
    refine Ev.step (fun k => spec_NameOk.l0.eq_2 _ _ _) ?_
    simp only [if_neg (show ¬ ((i : Int) < (s.size : Int)) by omega), spec_l1In_eq, Option.bind_some]
    refine ev_prop (nameFrom_end (by omega)).symm ?_
    refine ev_eq fun _ => ?_
    congr 1; exact decide_eq_decide.2 (by omega)
  | succ d ih =>
    intro i hi
    have hs := nameFrom_step (l := bytesOf s) (j := i) (by omega)
    refine Ev.step (fun k => spec_NameOk.l0.eq_2 _ _ _) ?_
    simp only [if_pos (show ((i : Int) < (s.size : Int)) by omega), if_pos (show 0 ≤ (i : Int) by omega), wsucc i (by omega), bt_get s i (by omega)]
    by_cases h1 : lowP (bytesOf s)[i]
    · simp only [if_pos (show (bytesOf s)[i] ≥ 97 from h1.1), if_pos h1.2]
      exact ev_prop (hs.trans ⟨fun h => h.2, fun h => ⟨.inl h1, h⟩⟩).symm (ih (i + 1) (by omega))
    · have key : Ev (fun k => if (i : Int) = 0 then some false else if (bytesOf s)[i] < 48 then some false else if (bytesOf s)[i] > 57 then some false else spec_NameOk.l0 k s ((i + 1 : Nat) : Int)) (decide (nameFrom (bytesOf s) i)) := by
        by_cases h0 : (i : Int) = 0
        · simp only [if_pos h0]
          have : decide (nameFrom (bytesOf s) i) = false := decide_eq_false (fun h => by rcases (hs.1 h).1 with h2 | h2; exact h1 h2; omega)
          rw [this]; exact Ev.now _
        · simp only [if_neg h0]
          by_cases h2 : digP (bytesOf s)[i]
          · simp only [if_neg (show ¬ (bytesOf s)[i] < 48 by have := h2.1; omega), if_neg (show ¬ (bytesOf s)[i] > 57 by have := h2.2; omega)]
            exact ev_prop (hs.trans ⟨fun h => h.2, fun h => ⟨.inr ⟨by omega, h2⟩, h⟩⟩).symm (ih (i + 1) (by omega))
          · have : decide (nameFrom (bytesOf s) i) = false := decide_eq_false (fun h => by rcases (hs.1 h).1 with h3 | h3; exact h1 h3; exact h2 h3.2)
            rw [this]
            by_cases h3 : (bytesOf s)[i] < 48
            · simp only [if_pos h3]; exact Ev.now _
            · simp only [if_neg h3, if_pos (show (bytesOf s)[i] > 57 by unfold digP at h2; omega)]; exact Ev.now _
      by_cases h3 : (bytesOf s)[i] ≥ 97
      · simp only [if_pos h3, if_neg (show ¬ (bytesOf s)[i] ≤ 122 by unfold lowP at h1; omega)]; exact key
      · simp only [if_neg h3]; exact key

theorem spec_NameOk_ev (s : ByteArray) (hn : s.size < 4611686018427387904) : Ev (fun k => spec_NameOk.f k s) (nameB (bytesOf s)) := spec_NameOk_l0 s hn s.size 0 (by omega)

open Classical in
theorem spec_FieldsOk_l0 (l : List S75) (hn : l.length ≤ 1048577) (hs : ∀ x ∈ l, x.f0.size ≤ 1048576) : ∀ (d i : Nat), i + d = l.length → Ev (fun k => spec_FieldsOk.l0 k l (i : Int)) (decide (fieldsFrom l i)) := by
  intro d
  induction d with
  | zero =>
    intro i hi
    refine Ev.step (fun k => spec_FieldsOk.l0.eq_2 _ _ _) ?_
    simp only [if_neg (show ¬ ((i : Int) < (l.length : Int)) by omega), spec_l1In_eq, Option.bind_some]
    refine ev_prop (fieldsFrom_end (by omega)).symm ?_
    refine ev_eq fun _ => ?_
    congr 1; exact decide_eq_decide.2 (by omega)
  | succ d ih =>
    intro i hi
    have hst := fieldsFrom_step (l := l) (j := i) (by omega)
    have hsz := hs l[i] (List.getElem_mem _)
    refine Ev.step (fun k => spec_FieldsOk.l0.eq_2 _ _ _) ?_
    simp only [if_pos (show ((i : Int) < (l.length : Int)) by omega), if_pos (show 0 ≤ (i : Int) by omega), rdi_Field l i (by omega), spec_l1In_eq, Option.bind_some]
    have hj2 : ∀ (t o : Bool), ((t || o) = true ↔ fieldP l[i]) → Ev (fun k => spec_FieldsOk.j2 k l (i : Int) t o l[i].f0 l[i].f1 l[i].f2) (decide (fieldsFrom l i)) := by
      intro t o hto
      refine Ev.step (fun k => spec_FieldsOk.j2.eq_2 _ _ _ _ _ _ _ _) ?_
      refine Ev.bind (spec_NameOk_ev l[i].f0 (by omega)) ?_
      cases hnm : nameB (bytesOf l[i].f0) with
      | false =>
        simp only [if_neg (show ¬ (false = true) by decide)]
        refine ev_false (fun h => ?_) (Ev.now _)
        have := nameB_iff.2 (hst.1 h).1.1
        rw [hnm] at this; cases this
      | true =>
        simp only [if_true]
        obtain ⟨r, hr, hq⟩ := spec_l2Field_ev l l[i].f0 (by omega)
        refine Ev.bind hr ?_
        by_cases he : r = (i : Int)
        · have hfirst : ∀ m (hm : m < i), l[m].f0 ≠ l[i].f0 := by
            rcases hq with hq | ⟨j, hj, h1, h2, h3⟩
            · omega
            · obtain rfl : j = i := by omega
              exact h3
          simp only [if_pos he, wsucc i (by omega)]
          have hnext := ih (i + 1) (by omega)
          by_cases hp : fieldP l[i]
          · have hb := hto.2 hp
            have hgoal : Ev (fun k => spec_FieldsOk.l0 k l ((i + 1 : Nat) : Int)) (decide (fieldsFrom l i)) := ev_prop (hst.trans ⟨fun h => h.2, fun h => ⟨⟨nameB_iff.1 hnm, hp, hfirst⟩, h⟩⟩).symm hnext
            cases t with
            | true => simp only [if_true]; exact hgoal
            | false =>
              have ho : o = true := by simpa using hb
              simp only [if_neg (show ¬ (false = true) by decide), ho, if_true]; exact hgoal
          · have hb : (t || o) = false := by rw [Bool.eq_false_iff]; exact fun h => hp (hto.1 h)
            have ht : t = false := by cases t; rfl; simp at hb
            have ho : o = false := by cases o; rfl; simp at hb
            simp only [ht, ho, if_neg (show ¬ (false = true) by decide)]
            exact ev_false (fun h => hp (hst.1 h).1.2.1) (Ev.now _)
        · simp only [if_neg he]
          refine ev_false (fun h => ?_) (Ev.now _)
          have h4 := (hst.1 h).1.2.2
          rcases hq with ⟨h1, h2⟩ | ⟨j, hj, h1, h2, h3⟩
          · exact h2 l[i] (List.getElem_mem _) rfl
          · rcases Nat.lt_trichotomy j i with h5 | h5 | h5
            · exact h4 j h5 h2
            · exact he (by omega)
            · exact h3 i h5 rfl
    have hj1 : ∀ (t : Bool), (t = true ↔ (l[i].f1 = 1 ∧ 1 ≤ l[i].f2 ∧ l[i].f2 ≤ 9)) → Ev (fun k => spec_FieldsOk.j1 k l (i : Int) t l[i].f0 l[i].f1 l[i].f2) (decide (fieldsFrom l i)) := by
      intro t ht
      refine Ev.step (fun k => spec_FieldsOk.j1.eq_2 _ _ _ _ _ _ _) ?_
      simp only [spec_l1In_eq, Option.bind_some, decide_eq_true_eq]
      by_cases h2 : 2 ≤ l[i].f1 ∧ l[i].f1 ≤ 3
      · simp only [if_pos h2]
        refine hj2 t _ ?_
        unfold fieldP
        rw [Bool.or_eq_true, ht, beq_iff_eq]
        constructor
        · rintro (h | h)
          · exact .inl h
          · exact .inr ⟨h2.1, h2.2, h⟩
        · rintro (h | h)
          · exact .inl h
          · exact .inr h.2.2
      · simp only [if_neg h2]
        refine hj2 t false ?_
        unfold fieldP
        rw [Bool.or_false, ht]
        exact ⟨.inl, fun h => h.resolve_right (fun h3 => h2 ⟨h3.1, h3.2.1⟩)⟩
    by_cases h1 : l[i].f1 = 1
    · simp only [if_pos h1]
      refine hj1 _ ?_
      rw [decide_eq_true_eq]
      exact ⟨fun h => ⟨h1, h⟩, fun h => h.2⟩
    · simp only [if_neg h1]
      exact hj1 false ⟨(fun h => by cases h), fun h => absurd h.1 h1⟩

theorem spec_FieldsOk_ev (l : List S75) (hn : l.length ≤ 1048577) (hs : ∀ x ∈ l, x.f0.size ≤ 1048576) : Ev (fun k => spec_FieldsOk.f k l) (fieldsB l) := spec_FieldsOk_l0 l hn hs l.length 0 (by omega)

theorem spec_FieldsPut_ev (l : List S75) (hn : l.length ≤ 1048577) (hs : ∀ x ∈ l, x.f0.size ≤ 1048576) : Ev (fun k => spec_FieldsPut.f k l) (fieldsPutB l) := by
  simp only [spec_FieldsPut.f, fieldsPutB]
  refine Ev.bind (spec_FieldsOk_ev l (by omega) hs) ?_
  cases h : fieldsB l with
  | false => exact Ev.now _
  | true =>
    obtain ⟨h1, h2⟩ := good_of_fields h
    simp only [if_true, spec_l2Put.f]
    have hx := spec_l2Put_l0 l h2 h1 l.length 0 (⟨#[]⟩ : ByteArray) (by omega) (by have : (⟨#[]⟩ : ByteArray).size = 0 := rfl; omega)
    rw [if_neg (by omega), List.drop_zero] at hx
    have e : (⟨#[]⟩ : ByteArray) ++ joinT (l.map fieldT) sp = joinT (l.map fieldT) sp := ByteArray.empty_append
    rw [e] at hx
    exact Ev.bind hx (Ev.now _)

def fieldNames : List ByteArray := [(⟨#[116, 105, 116, 108, 101]⟩ : ByteArray), (⟨#[98, 111, 100, 121]⟩ : ByteArray), (⟨#[112, 114, 105, 99, 101]⟩ : ByteArray), (⟨#[99, 111, 108, 111, 114]⟩ : ByteArray), (⟨#[122]⟩ : ByteArray), (⟨#[]⟩ : ByteArray)]

/-- Fields as they are drawn: few, of known names. -/
def drawnF (n : Nat) (l : List S75) : Prop := l.length ≤ n ∧ ∀ f ∈ l, f.f0 ∈ fieldNames

theorem drawnF_size {n : Nat} {l : List S75} (h : drawnF n l) : ∀ f ∈ l, f.f0.size ≤ 1048576 := by
  intro f hf
  have : ∀ x ∈ fieldNames, x.size ≤ 1048576 := by decide
  exact this _ (h.2 f hf)

/-- The number that Atoi hands back, whatever it says beside it. -/
def atoiV (s : ByteArray) : Int := match Lib.atoiAll s.data.toList with
  | .ok n => n
  | .range => Lib.atoiSat s.data.toList
  | _ => 0

def mkField (a : ByteArray) (k w : Int) : S75 := ⟨a, k, w⟩

/-- A text cut at a byte, so many times at most; acc: what stands of the first piece. -/
def cutW (c : UInt8) : Nat → List UInt8 → List UInt8 → List (List UInt8)
  | _, acc, [] => [acc]
  | 0, acc, x :: xs => [acc ++ x :: xs]
  | n + 1, acc, x :: xs => if x = c then acc :: cutW c n [] xs else cutW c (n + 1) (acc ++ [x]) xs

def mkT (l : List UInt8) : ByteArray := ⟨l.toArray⟩

/-- The pieces of a text between the bytes c. -/
def splitT (c : UInt8) (s : ByteArray) : List ByteArray := (cutW c (s.data.toList.count c) [] s.data.toList).map mkT

def fieldI (s : ByteArray) : S75 := match splitT 58 s ++ [(⟨#[]⟩ : ByteArray), (⟨#[]⟩ : ByteArray)] with
  | a :: b :: c :: _ => if b = (⟨#[116, 101, 120, 116]⟩ : ByteArray) then mkField a 1 (atoiV c) else if b = (⟨#[110, 117, 109]⟩ : ByteArray) then mkField a 2 0 else if b = (⟨#[116, 97, 103]⟩ : ByteArray) then mkField a 3 0 else mkField a 0 0
  | _ => mkField s 0 0

def fieldsI (s : ByteArray) : List S75 := (splitT 32 s).map fieldI

noncomputable def fieldsRes (s : ByteArray) (l : List S75) : List S75 × Bool := if fieldsB l = true then (if joinT (l.map fieldT) sp = s then (l, true) else ([], false)) else ([], false)

theorem fieldsRes_neg {s : ByteArray} {l : List S75} (h : fieldsB l = true → joinT (l.map fieldT) sp = s → False) : fieldsRes s l = ([], false) := by
  unfold fieldsRes
  by_cases h1 : fieldsB l = true
  · rw [if_pos h1, if_neg (h h1)]
  · rw [if_neg h1]

theorem fieldsRes_pos {s : ByteArray} {l : List S75} (h1 : fieldsB l = true) (h2 : joinT (l.map fieldT) sp = s) : fieldsRes s l = (l, true) := by
  unfold fieldsRes; rw [if_pos h1, if_pos h2]

theorem fieldsRes_form (s : ByteArray) (l : List S75) : fieldsRes s l = ([], false) ∨ (fieldsRes s l = (l, true) ∧ fieldsB l = true ∧ joinT (l.map fieldT) sp = s) := by
  by_cases h1 : fieldsB l = true
  · by_cases h2 : joinT (l.map fieldT) sp = s
    · exact Or.inr ⟨fieldsRes_pos h1 h2, h1, h2⟩
    · exact Or.inl (fieldsRes_neg (fun _ h => h2 h))
  · exact Or.inl (fieldsRes_neg (fun h _ => h1 h))

theorem Atoi_eq (s : ByteArray) (hs : s.size ≤ 140737488355328) : ∃ o, strconv_Atoi.f s = some (atoiV s, o) := by
  unfold strconv_Atoi.f atoiV
  rw [if_pos hs]
  rcases Lib.atoiAll s.data.toList with n | _ | _
  · exact ⟨_, rfl⟩
  · exact ⟨_, rfl⟩
  · exact ⟨_, rfl⟩

theorem cutW_length (c : UInt8) : ∀ (l : List UInt8) (n : Nat) (acc : List UInt8), (cutW c n acc l).length ≤ l.length + 1 ∧ (cutW c n acc l).length ≤ n + 1 ∧ 1 ≤ (cutW c n acc l).length
  | [], n, acc => by simp [cutW]
  | x :: xs, 0, acc => by simp [cutW]
  | x :: xs, n + 1, acc => by
    have h1 := cutW_length c xs n []
    have h2 := cutW_length c xs (n + 1) (acc ++ [x])
    unfold cutW
    split
    · simp only [List.length_cons]; omega
    · simp only [List.length_cons]; omega

theorem data_size (s : ByteArray) : s.data.toList.length = s.size := rfl

theorem splitT_length (c : UInt8) (s : ByteArray) : (splitT c s).length ≤ s.size + 1 ∧ 1 ≤ (splitT c s).length := by
  unfold splitT
  have := cutW_length c s.data.toList (s.data.toList.count c) []
  rw [List.length_map]; rw [data_size] at this; omega

theorem cutW_size (c : UInt8) : ∀ (l : List UInt8) (n : Nat) (acc : List UInt8), ∀ p ∈ cutW c n acc l, p.length ≤ acc.length + l.length
  | [], n, acc => by simp [cutW]
  | x :: xs, 0, acc => by simp [cutW]
  | x :: xs, n + 1, acc => by
    intro p hp
    unfold cutW at hp
    split at hp
    · rcases List.mem_cons.1 hp with rfl | hp
      · omega
      · have := cutW_size c xs n [] p hp
        simp only [List.length_nil, List.length_cons] at this ⊢; omega
    · have := cutW_size c xs (n + 1) (acc ++ [x]) p hp
      simp only [List.length_append, List.length_cons, List.length_nil] at this ⊢; omega

theorem mkT_size (l : List UInt8) : (mkT l).size = l.length := by simp [mkT, ByteArray.size]

theorem splitT_size {c : UInt8} {s p : ByteArray} (h : p ∈ splitT c s) : p.size ≤ s.size := by
  obtain ⟨x, hx, rfl⟩ := List.mem_map.1 h
  have := cutW_size c _ _ _ x hx
  rw [data_size] at this
  rw [mkT_size]; simpa using this

theorem fieldI_size (s : ByteArray) : (fieldI s).f0.size ≤ s.size := by
  have hm : ∀ x ∈ splitT 58 s, x.size ≤ s.size := fun x hx => splitT_size hx
  have hl := splitT_length 58 s
  obtain ⟨a, r, hc⟩ : ∃ a r, splitT 58 s = a :: r := by
    cases hc : splitT 58 s with
    | nil => rw [hc] at hl; simp at hl
    | cons a r => exact ⟨a, r, rfl⟩
  have ha := hm a (by rw [hc]; simp)
  unfold fieldI
  rw [hc]
  cases r with
  | nil =>
    simp only [List.cons_append, List.nil_append]
    repeat (split; exact ha)
    exact ha
  | cons b r =>
    cases r with
    | nil =>
      simp only [List.cons_append, List.nil_append]
      repeat (split; exact ha)
      exact ha
    | cons c r =>
      simp only [List.cons_append]
      repeat (split; exact ha)
      exact ha

theorem data_mkT (l : List UInt8) : (mkT l).data.toList = l := by simp [mkT]

theorem mkT_data (s : ByteArray) : mkT s.data.toList = s := by cases s; rfl

theorem toList_lit (b : ByteArray) (l : List UInt8) : b.toList = l ↔ b = mkT l := by
  rw [toList_data]
  constructor
  · intro h; rw [← mkT_data b, h]
  · rintro rfl; exact data_mkT l

theorem is_num (b : ByteArray) : b.toList = ([110, 117, 109] : List UInt8) ↔ b = (⟨#[110, 117, 109]⟩ : ByteArray) := toList_lit b _

theorem is_tag (b : ByteArray) : b.toList = ([116, 97, 103] : List UInt8) ↔ b = (⟨#[116, 97, 103]⟩ : ByteArray) := toList_lit b _

theorem is_text (b : ByteArray) : b.toList = ([116, 101, 120, 116] : List UInt8) ↔ b = (⟨#[116, 101, 120, 116]⟩ : ByteArray) := toList_lit b _

theorem cutW_zero (c : UInt8) (acc l : List UInt8) : cutW c 0 acc l = [acc ++ l] := by cases l <;> simp [cutW]

theorem cutW_run (c : UInt8) : ∀ (x : List UInt8) (n : Nat) (acc r : List UInt8), c ∉ x → cutW c n acc (x ++ r) = cutW c n (acc ++ x) r
  | [], n, acc, r, _ => by simp
  | a :: x, 0, acc, r, _ => by rw [cutW_zero, cutW_zero]; simp
  | a :: x, n + 1, acc, r, h => by
    have h1 : a ≠ c := fun e => h (by simp [e])
    rw [List.cons_append, cutW, if_neg h1, cutW_run c x (n + 1) _ r (fun e => h (List.mem_cons_of_mem _ e))]
    simp

theorem indexByte_at (c : UInt8) (r : List UInt8) : ∀ (x : List UInt8), c ∉ x → Lib.indexByte (x ++ c :: r) c = (x.length : Int)
  | [], _ => by simp [Lib.indexByte]
  | a :: x, h => by
    have ha : a ≠ c := fun e => h (by simp [e])
    have := indexByte_at c r x (fun e => h (List.mem_cons_of_mem _ e))
    simp [Lib.indexByte, this, ha]

theorem indexByte_out (c : UInt8) : ∀ (l : List UInt8), c ∉ l → Lib.indexByte l c = -1
  | [], _ => rfl
  | x :: l, h => by
    have hx : x ≠ c := fun e => h (by simp [e])
    have := indexByte_out c l (fun e => h (List.mem_cons_of_mem _ e))
    simp [Lib.indexByte, this, hx]

theorem splitK_eq (c : UInt8) : ∀ (k : Nat) (l : List UInt8), Lib.splitK [c] 0 k l = cutW c k [] l
  | 0, l => by rw [cutW_zero]; rfl
  | k + 1, l => by
    unfold Lib.splitK
    rw [Lib.index_one]
    by_cases h : c ∈ l
    · obtain ⟨x, r, rfl, hx⟩ := List.eq_append_cons_of_mem h
      rw [indexByte_at c r x hx, if_neg (by simp), splitK_eq c k, cutW_run c x (k + 1) [] _ hx, cutW, if_pos rfl]
      simp
    · rw [indexByte_out c l h, if_pos (by decide)]
      have := cutW_run c l (k + 1) [] [] h
      rw [List.append_nil, List.nil_append] at this
      rw [this]; simp [cutW]

theorem Split_eq (c : UInt8) (s : ByteArray) (hs : s.size < 4294967281) : strings_Split.f s ⟨#[c]⟩ = some (splitT c s) := by
  unfold strings_Split.f
  rw [if_pos ⟨hs, Nat.le_refl _⟩]
  have e : (⟨#[c]⟩ : ByteArray).data.toList = [c] := rfl
  have h1 := Lib.splitB_data ⟨#[c]⟩ 0 (Lib.countB s ⟨#[c]⟩) s
  rw [e, splitK_eq] at h1
  have h2 : Lib.countB s ⟨#[c]⟩ = s.data.toList.count c := by
    show Lib.count s.data.toList [c] = _
    exact Lib.count_one c _
  rw [h2] at h1 ⊢
  unfold splitT
  rw [← h1, List.map_map]
  congr 1
  conv => lhs; rw [← List.map_id (Lib.splitB _ _ _ _)]
  exact List.map_congr_left (fun x _ => (mkT_data x).symm)

theorem impl_FieldsGet_l0 (s : ByteArray) (L : List ByteArray) (hL : L.length ≤ 1048577) (hx : ∀ x ∈ L, x.size ≤ 1048576) : ∀ (d i : Nat) (acc : List S75), i + d = L.length → acc.length ≤ i → (∀ x ∈ acc, x.f0.size ≤ 1048576) →
    Ev (fun k => impl_FieldsGet.l0 k s acc L (L.length : Int) (i : Int)) (fieldsRes s (acc ++ (L.drop i).map fieldI)) := by
  intro d
  induction d with
  | zero =>
    intro i acc hi ha hsz
    refine Ev.step (fun k => impl_FieldsGet.l0.eq_2 _ _ _ _ _ _) ?_
    simp only [if_neg (show ¬ ((i : Int) < (L.length : Int)) by omega)]
    rw [List.drop_eq_nil_of_le (by omega), List.map_nil, List.append_nil]
    refine Ev.bind (impl_FieldsOk_ev acc (by omega) hsz) ?_
    simp only [fieldsRes]
    cases hf : fieldsB acc with
    | false => exact Ev.now _
    | true =>
      simp only [if_true]
      have hg := impl_FieldsPut_ev acc (by omega) hsz
      simp only [fieldsPutB, if_pos hf] at hg
      refine Ev.bind hg ?_
      simp only [toList_inj]
      by_cases hp : joinT (acc.map fieldT) sp = s
      · simp only [if_pos hp]; exact Ev.now _
      · simp only [if_neg hp]; exact Ev.now _
  | succ d ih =>
    intro i acc hi ha hsz
    have hxi := hx L[i] (List.getElem_mem _)
    have hfs := fieldI_size L[i]
    have h := ih (i + 1) (acc ++ [fieldI L[i]]) (by omega) (by simp; omega) (fun x hx => by
      rcases List.mem_append.1 hx with h | h
      · exact hsz x h
      · rw [List.mem_singleton.1 h]; omega)
    rw [List.append_assoc] at h
    have hl := splitT_length 58 L[i]
    refine Ev.step (fun k => impl_FieldsGet.l0.eq_2 _ _ _ _ _ _) ?_
    rw [drop_get L i (by omega), List.map_cons]
    obtain ⟨a, b, c, r, hc⟩ : ∃ a b c r, splitT 58 L[i] ++ [(⟨#[]⟩ : ByteArray), (⟨#[]⟩ : ByteArray)] = a :: b :: c :: r := by
      match hs : splitT 58 L[i] with
      | [] => rw [hs] at hl; simp at hl
      | [a] => exact ⟨_, _, _, _, rfl⟩
      | [a, b] => exact ⟨_, _, _, _, rfl⟩
      | a :: b :: c :: r => exact ⟨_, _, _, _, rfl⟩
    have hcs : c.size ≤ 1048576 := by
      have hm : c ∈ splitT 58 L[i] ++ [(⟨#[]⟩ : ByteArray), (⟨#[]⟩ : ByteArray)] := by rw [hc]; simp
      rcases List.mem_append.1 hm with h | h
      · have := splitT_size h; omega
      · have e0 : (⟨#[]⟩ : ByteArray).size = 0 := rfl
        simp only [List.mem_cons, List.not_mem_nil, or_false, or_self] at h
        rw [h]; omega
    have eI : fieldI L[i] = if b = (⟨#[116, 101, 120, 116]⟩ : ByteArray) then mkField a 1 (atoiV c) else if b = (⟨#[110, 117, 109]⟩ : ByteArray) then mkField a 2 0 else if b = (⟨#[116, 97, 103]⟩ : ByteArray) then mkField a 3 0 else mkField a 0 0 := by
      unfold fieldI; rw [hc]
    obtain ⟨o, hat⟩ := Atoi_eq c (by omega)
    have r0 : rdOf ByteArray.empty (a :: b :: c :: r) 0 = a := rfl
    have r1 : rdOf ByteArray.empty (a :: b :: c :: r) 1 = b := rfl
    have r2 : rdOf ByteArray.empty (a :: b :: c :: r) 2 = c := rfl
    have hl3 : ((a :: b :: c :: r).length : Int) = (r.length : Int) + 3 := by simp only [List.length_cons]; omega
    have hl2 : (([(⟨#[]⟩ : ByteArray), (⟨#[]⟩ : ByteArray)] : List ByteArray)).length = 2 := rfl
    simp only [if_pos (show ((i : Int) < (L.length : Int)) by omega), if_pos (show 0 ≤ (i : Int) by omega), rdOf_get _ L i (by omega), Split_eq 58 L[i] (show L[i].size < 4294967281 by omega), Option.bind_some, hl2, if_pos (show (splitT 58 L[i]).length + 2 < 8796093022208 by omega), hc, hl3, r0, r1, r2, if_pos (show 0 < (r.length : Int) + 3 by omega), if_pos (show 1 < (r.length : Int) + 3 by omega), if_pos (show 2 < (r.length : Int) + 3 by omega), is_text, is_num, is_tag, hat, if_pos (show acc.length < 4398046511104 by omega), wsucc i (by omega)]
    by_cases c1 : b = (⟨#[116, 101, 120, 116]⟩ : ByteArray)
    · rw [if_pos c1] at eI
      rw [eI] at h
      simp only [if_pos c1, eI]
      exact h
    · rw [if_neg c1] at eI
      simp only [if_neg c1]
      by_cases c2 : b = (⟨#[110, 117, 109]⟩ : ByteArray)
      · rw [if_pos c2] at eI
        rw [eI] at h
        simp only [if_pos c2, eI]
        exact h
      · rw [if_neg c2] at eI
        simp only [if_neg c2]
        by_cases c3 : b = (⟨#[116, 97, 103]⟩ : ByteArray)
        · rw [if_pos c3] at eI
          rw [eI] at h
          simp only [if_pos c3, eI]
          exact h
        · rw [if_neg c3] at eI
          rw [eI] at h
          simp only [if_neg c3, eI]
          exact h

theorem impl_FieldsGet_ev (s : ByteArray) (hs : s.size ≤ 1048576) : Ev (fun k => impl_FieldsGet.f k s) (fieldsRes s (fieldsI s)) := by
  have hlen := splitT_length 32 s
  simp only [impl_FieldsGet.f, Split_eq 32 s (show s.size < 4294967281 by omega), Option.bind_some]
  exact impl_FieldsGet_l0 s (splitT 32 s) (by omega) (fun x hx => by have := splitT_size hx; omega) (splitT 32 s).length 0 [] (by omega) (by simp) (fun x hx => by simp at hx)

def isD (c : UInt8) : Prop := 48 ≤ c.toNat ∧ c.toNat ≤ 57
instance (c : UInt8) : Decidable (isD c) := by unfold isD; infer_instance

def CanonD (l : List UInt8) : Prop := l ≠ [] ∧ (∀ c ∈ l, isD c) ∧ (1 < l.length → l.head? ≠ some 48)

/-- The number that digits spell behind acc. -/
def valD (acc : Nat) (l : List UInt8) : Nat := l.foldl (fun a c => a * 10 + (c.toNat - 48)) acc

open Classical in
/-- The number that at most nine figures are; -1 if they are none, more, or have noughts ahead. -/
noncomputable def figB (s : ByteArray) : Int := if CanonD s.data.toList ∧ s.size ≤ 9 then (valD 0 s.data.toList : Int) else -1

/-- A text cut at the first n bytes c. -/
def cutT (c : UInt8) (n : Nat) (s : ByteArray) : List ByteArray := (cutW c n [] s.data.toList).map mkT

noncomputable def fieldS (s : ByteArray) : S75 := match cutT 58 2 s with
  | [a] => mkField a 0 0
  | [a, b] => if b = (⟨#[110, 117, 109]⟩ : ByteArray) then mkField a 2 0 else if b = (⟨#[116, 97, 103]⟩ : ByteArray) then mkField a 3 0 else mkField a 0 0
  | [a, b, c] => if b = (⟨#[116, 101, 120, 116]⟩ : ByteArray) then mkField a 1 (figB c) else mkField a 0 0
  | _ => mkField s 0 0

noncomputable def fieldsS (s : ByteArray) : List S75 := (cutT 32 4 s).map fieldS

def fieldN (f : S75) : Prop := nameB (bytesOf f.f0) = true ∧ fieldP f

theorem fieldN_of {l : List S75} (h : fieldsB l = true) : ∀ f ∈ l, fieldN f := by
  intro f hf
  obtain ⟨i, hi, rfl⟩ := List.mem_iff_getElem.1 hf
  have h1 := (fieldsB_iff.1 h).1 i hi (Nat.zero_le _)
  exact ⟨nameB_iff.2 h1.1, h1.2.1⟩

theorem append_data (a b : ByteArray) : (a ++ b).data.toList = a.data.toList ++ b.data.toList := by rw [ByteArray.data_append, Array.toList_append]

theorem mem_bytesOf {s : ByteArray} {c : UInt8} (h : c ∈ s.data.toList) : (c.toNat : Int) ∈ bytesOf s := by unfold bytesOf; exact List.mem_map.2 ⟨c, h, rfl⟩

theorem name_byte {s : ByteArray} (h : nameB (bytesOf s) = true) : ∀ c ∈ s.data.toList, (97 ≤ c.toNat ∧ c.toNat ≤ 122) ∨ (48 ≤ c.toNat ∧ c.toNat ≤ 57) := by
  intro c hc
  have h1 := nameB_iff.1 h
  obtain ⟨i, hi, he⟩ := List.mem_iff_getElem.1 (mem_bytesOf hc)
  have h2 := h1.1 i hi (Nat.zero_le _)
  rw [he] at h2
  rcases h2 with h2 | ⟨_, h2⟩
  · unfold lowP at h2; omega
  · unfold digP at h2; omega

theorem name_no {s : ByteArray} (h : nameB (bytesOf s) = true) (c : UInt8) (hc : c.toNat < 48 ∨ 57 < c.toNat ∧ c.toNat < 97 ∨ 122 < c.toNat) : c ∉ s.data.toList := by
  intro hm
  have := name_byte h _ hm
  omega

theorem dig_val (v : Nat) (h : v < 10) : (UInt8.ofNat (48 + v)).toNat = 48 + v := by rw [UInt8.toNat_ofNat']; exact Nat.mod_eq_of_lt (by omega)

theorem dec_dig (u : Nat) : ∀ c ∈ Lib.decDigits u, isD c := by
  induction u using Nat.strongRecOn with
  | _ u ih =>
    intro c hc
    unfold isD
    by_cases h : u < 10
    · rw [Lib.decDigits, dif_pos h, List.mem_singleton] at hc
      rw [hc, dig_val u h]; omega
    · rw [Lib.decDigits, dif_neg h] at hc
      rcases List.mem_append.1 hc with h1 | h1
      · exact ih (u / 10) (by omega) c h1
      · rw [List.mem_singleton] at h1
        rw [h1, dig_val (u % 10) (by omega)]; omega

theorem decN_no (u : Nat) (c : UInt8) (hc : c.toNat < 48 ∨ 57 < c.toNat) : c ∉ (decN u).data.toList := by
  intro h
  have h1 := dec_dig u c (by unfold decN at h; simpa using h)
  unfold isD at h1; omega

theorem fieldT_no {f : S75} (h : fieldN f) : (32 : UInt8) ∉ (fieldT f).data.toList := by
  have hn := name_no h.1 32 (by left; decide)
  have hd := decN_no f.f2.toNat 32 (by left; decide)
  unfold fieldT
  split
  · rw [append_data, append_data]
    simp only [List.mem_append, not_or]
    exact ⟨⟨hn, by decide⟩, hd⟩
  · split
    · rw [append_data]
      simp only [List.mem_append, not_or]
      exact ⟨hn, by decide⟩
    · rw [append_data]
      simp only [List.mem_append, not_or]
      exact ⟨hn, by decide⟩

theorem dec_ne (u : Nat) : Lib.decDigits u ≠ [] := by
  intro h
  have h1 := Lib.decDigits_length u
  have h2 := Lib.nDigits_pos u
  rw [h] at h1
  simp at h1; omega

theorem valD_append (a : List UInt8) (acc : Nat) (b : List UInt8) : valD acc (a ++ b) = valD (valD acc a) b := by unfold valD; rw [List.foldl_append]

theorem valD_cons (acc : Nat) (c : UInt8) (r : List UInt8) : valD acc (c :: r) = valD (acc * 10 + (c.toNat - 48)) r := by unfold valD; rw [List.foldl_cons]

theorem valD_nil (acc : Nat) : valD acc [] = acc := rfl

theorem dec_val (u : Nat) : valD 0 (Lib.decDigits u) = u := by
  induction u using Nat.strongRecOn with
  | _ u ih =>
    by_cases h : u < 10
    · rw [Lib.decDigits, dif_pos h, valD_cons, valD_nil, dig_val u h]; omega
    · rw [Lib.decDigits, dif_neg h, valD_append, ih (u / 10) (by omega), valD_cons, valD_nil, dig_val (u % 10) (by omega)]; omega

theorem valD_ge : ∀ (l : List UInt8) (acc : Nat), acc ≤ valD acc l
  | [], _ => Nat.le_refl _
  | c :: l, acc => by
    have := valD_ge l (acc * 10 + (c.toNat - 48))
    rw [valD_cons]; omega

theorem parse_val : ∀ (l : List UInt8) (acc : Nat), (∀ c ∈ l, isD c) → valD acc l < 1844674407370955162 → Lib.parseUint10 acc l = .ok (valD acc l)
  | [], _, _, _ => rfl
  | c :: r, acc, h, hv => by
    have hc := h c (by simp)
    unfold isD at hc
    rw [valD_cons] at hv
    have hg := valD_ge r (acc * 10 + (c.toNat - 48))
    rw [Lib.parseUint10, if_pos hc, if_neg (by omega), if_neg (by omega), parse_val r _ (fun x hx => h x (List.mem_cons_of_mem _ hx)) hv, valD_cons]

theorem mag_dec (u : Nat) (h : u ≤ 999999999999) : Lib.parseMag (Lib.decDigits u) = .ok u := by
  unfold Lib.parseMag
  rw [if_neg (dec_ne u), parse_val _ 0 (dec_dig u) (by rw [dec_val]; omega), dec_val]

theorem atoi_dec (u : Nat) (h : u ≤ 999999999999) : Lib.atoiAll (Lib.decDigits u) = .ok (u : Int) := by
  obtain ⟨c, r, e⟩ : ∃ c r, Lib.decDigits u = c :: r := by
    cases hd : Lib.decDigits u with
    | nil => exact absurd hd (dec_ne _)
    | cons c r => exact ⟨c, r, rfl⟩
  have hc := dec_dig u c (by rw [e]; simp)
  unfold isD at hc
  have hm := mag_dec u h
  rw [e] at hm ⊢
  rw [Lib.atoiAll_plain c r (by omega) (by omega), hm]
  simp only [Lib.signless, if_neg (show ¬ 9223372036854775808 ≤ u by omega)]

theorem atoiV_decN (u : Nat) (h : u ≤ 999999999) : atoiV (decN u) = (u : Int) := by
  unfold atoiV decN
  have e : (⟨(Lib.decDigits u).toArray⟩ : ByteArray).data.toList = Lib.decDigits u := by simp
  rw [e, atoi_dec u (by omega)]

theorem fieldN_eta {f : S75} {k w : Int} (h1 : f.f1 = k) (h2 : f.f2 = w) : mkField f.f0 k w = f := by
  cases f; simp only at h1 h2; subst h1; subst h2; rfl

theorem dec_no58 (u : Nat) : (58 : UInt8) ∉ (decN u).data.toList := decN_no u 58 (Or.inr (by decide))

theorem fieldT_join (f : S75) : fieldT f = if f.f1 = 1 then joinT [f.f0, (⟨#[116, 101, 120, 116]⟩ : ByteArray), decN f.f2.toNat] ⟨#[58]⟩ else if f.f1 = 2 then joinT [f.f0, (⟨#[110, 117, 109]⟩ : ByteArray)] ⟨#[58]⟩ else joinT [f.f0, (⟨#[116, 97, 103]⟩ : ByteArray)] ⟨#[58]⟩ := by
  have e1 : (⟨#[58, 116, 101, 120, 116, 58]⟩ : ByteArray) = ((⟨#[58]⟩ : ByteArray) ++ (⟨#[116, 101, 120, 116]⟩ : ByteArray)) ++ (⟨#[58]⟩ : ByteArray) := rfl
  have e2 : (⟨#[58, 110, 117, 109]⟩ : ByteArray) = (⟨#[58]⟩ : ByteArray) ++ (⟨#[110, 117, 109]⟩ : ByteArray) := rfl
  have e3 : (⟨#[58, 116, 97, 103]⟩ : ByteArray) = (⟨#[58]⟩ : ByteArray) ++ (⟨#[116, 97, 103]⟩ : ByteArray) := rfl
  have e0 : ∀ x : ByteArray, x ++ (⟨#[]⟩ : ByteArray) = x := fun x => ByteArray.append_empty
  unfold fieldT
  simp only [joinT_cons, tailT_cons, tailT_nil, e0, e1, e2, e3, ByteArray.append_assoc]

theorem joinTail_cons1 (c : UInt8) (x : List UInt8) (xs : List (List UInt8)) : Lib.joinTail [c] (x :: xs) = c :: (x ++ Lib.joinTail [c] xs) := by
  unfold Lib.joinTail; simp

theorem cutW_tail (c : UInt8) : ∀ (xs : List (List UInt8)) (n : Nat) (x0 : List UInt8), (∀ x ∈ x0 :: xs, c ∉ x) → xs.length ≤ n → cutW c n [] (x0 ++ Lib.joinTail [c] xs) = x0 :: xs
  | [], n, x0, h, _ => by
    have e : Lib.joinTail [c] [] = [] := rfl
    rw [e, cutW_run c x0 n [] [] (h x0 (by simp))]
    cases n <;> simp [cutW]
  | x1 :: xs, 0, x0, h, hl => by simp at hl
  | x1 :: xs, n + 1, x0, h, hl => by
    rw [joinTail_cons1, cutW_run c x0 (n + 1) [] _ (h x0 (by simp)), cutW, if_pos rfl, cutW_tail c xs n x1 (fun x hx => h x (List.mem_cons_of_mem _ hx)) (by simp at hl; omega)]
    simp

theorem joinT_data (x0 : ByteArray) (xs : List ByteArray) (c : UInt8) : (joinT (x0 :: xs) ⟨#[c]⟩).data.toList = x0.data.toList ++ Lib.joinTail [c] (xs.map (·.data.toList)) := by
  unfold joinT
  rw [List.map_cons, Lib.join_cons]

theorem cutT_joinT (c : UInt8) (n : Nat) (x0 : ByteArray) (xs : List ByteArray) (h : ∀ x ∈ x0 :: xs, c ∉ x.data.toList) (hl : xs.length ≤ n) : cutT c n (joinT (x0 :: xs) ⟨#[c]⟩) = x0 :: xs := by
  unfold cutT
  rw [joinT_data, cutW_tail c _ n _ (by
    intro y hy
    rcases List.mem_cons.1 hy with rfl | hy
    · exact h x0 (by simp)
    · obtain ⟨z, hz, rfl⟩ := List.mem_map.1 hy
      exact h z (List.mem_cons_of_mem _ hz)) (by rw [List.length_map]; exact hl)]
  rw [List.map_cons, mkT_data, List.map_map]
  congr 1
  conv => rhs; rw [← List.map_id xs]
  exact List.map_congr_left (fun x _ => mkT_data x)

theorem count_tail (c : UInt8) : ∀ (xs : List (List UInt8)), (∀ x ∈ xs, c ∉ x) → (Lib.joinTail [c] xs).count c = xs.length
  | [], _ => rfl
  | x :: xs, h => by
    rw [joinTail_cons1, List.count_cons_self, List.count_append, count_tail c xs (fun y hy => h y (List.mem_cons_of_mem _ hy)), List.count_eq_zero.2 (h x (by simp))]
    simp

theorem splitT_joinT (c : UInt8) (x0 : ByteArray) (xs : List ByteArray) (h : ∀ x ∈ x0 :: xs, c ∉ x.data.toList) : splitT c (joinT (x0 :: xs) ⟨#[c]⟩) = x0 :: xs := by
  have e : (joinT (x0 :: xs) ⟨#[c]⟩).data.toList.count c = xs.length := by
    rw [joinT_data, List.count_append, List.count_eq_zero.2 (h x0 (by simp)), count_tail c _ (by
      intro y hy
      obtain ⟨z, hz, rfl⟩ := List.mem_map.1 hy
      exact h z (List.mem_cons_of_mem _ hz)), List.length_map, Nat.zero_add]
  have := cutT_joinT c xs.length x0 xs h (Nat.le_refl _)
  unfold splitT
  rw [e]; exact this

theorem fieldT_pieces {f : S75} (h : fieldN f) : (f.f1 = 1 ∧ splitT 58 (fieldT f) = [f.f0, (⟨#[116, 101, 120, 116]⟩ : ByteArray), decN f.f2.toNat] ∧ cutT 58 2 (fieldT f) = [f.f0, (⟨#[116, 101, 120, 116]⟩ : ByteArray), decN f.f2.toNat]) ∨
    (f.f1 = 2 ∧ splitT 58 (fieldT f) = [f.f0, (⟨#[110, 117, 109]⟩ : ByteArray)] ∧ cutT 58 2 (fieldT f) = [f.f0, (⟨#[110, 117, 109]⟩ : ByteArray)]) ∨
    (f.f1 = 3 ∧ splitT 58 (fieldT f) = [f.f0, (⟨#[116, 97, 103]⟩ : ByteArray)] ∧ cutT 58 2 (fieldT f) = [f.f0, (⟨#[116, 97, 103]⟩ : ByteArray)]) := by
  have hn := name_no h.1 58 (by right; left; decide)
  have hp := h.2
  unfold fieldP at hp
  rw [fieldT_join]
  by_cases e1 : f.f1 = 1
  · have hx : ∀ x ∈ [f.f0, (⟨#[116, 101, 120, 116]⟩ : ByteArray), decN f.f2.toNat], (58 : UInt8) ∉ x.data.toList := by
      intro x hx
      simp only [List.mem_cons, List.not_mem_nil, or_false] at hx
      rcases hx with rfl | rfl | rfl
      · exact hn
      · decide
      · exact dec_no58 _
    left
    rw [if_pos e1]
    exact ⟨e1, splitT_joinT 58 _ _ hx, cutT_joinT 58 2 _ _ hx (by simp)⟩
  · right
    by_cases e2 : f.f1 = 2
    · left
      have hx : ∀ x ∈ [f.f0, (⟨#[110, 117, 109]⟩ : ByteArray)], (58 : UInt8) ∉ x.data.toList := by
        intro x hx
        simp only [List.mem_cons, List.not_mem_nil, or_false] at hx
        rcases hx with rfl | rfl
        · exact hn
        · decide
      rw [if_neg e1, if_pos e2]
      exact ⟨e2, splitT_joinT 58 _ _ hx, cutT_joinT 58 2 _ _ hx (by simp)⟩
    · right
      have hx : ∀ x ∈ [f.f0, (⟨#[116, 97, 103]⟩ : ByteArray)], (58 : UInt8) ∉ x.data.toList := by
        intro x hx
        simp only [List.mem_cons, List.not_mem_nil, or_false] at hx
        rcases hx with rfl | rfl
        · exact hn
        · decide
      rw [if_neg e1, if_neg e2]
      exact ⟨by omega, splitT_joinT 58 _ _ hx, cutT_joinT 58 2 _ _ hx (by simp)⟩

theorem fieldI_T {f : S75} (h : fieldN f) : fieldI (fieldT f) = f := by
  have hp := h.2
  unfold fieldP at hp
  unfold fieldI
  rcases fieldT_pieces h with ⟨e, h1, _⟩ | ⟨e, h1, _⟩ | ⟨e, h1, _⟩
  · rw [h1]
    have := atoiV_decN f.f2.toNat (by omega)
    simp only [List.cons_append, List.nil_append, if_true, this]
    exact fieldN_eta e (by omega)
  · rw [h1]
    simp only [List.cons_append, List.nil_append, if_neg (show ¬ (⟨#[110, 117, 109]⟩ : ByteArray) = (⟨#[116, 101, 120, 116]⟩ : ByteArray) by decide), if_true]
    exact fieldN_eta e (by omega)
  · rw [h1]
    simp only [List.cons_append, List.nil_append, if_neg (show ¬ (⟨#[116, 97, 103]⟩ : ByteArray) = (⟨#[116, 101, 120, 116]⟩ : ByteArray) by decide), if_neg (show ¬ (⟨#[116, 97, 103]⟩ : ByteArray) = (⟨#[110, 117, 109]⟩ : ByteArray) by decide), if_true]
    exact fieldN_eta e (by omega)

theorem map_fieldI {l : List S75} (h : ∀ f ∈ l, fieldN f) : (l.map fieldT).map fieldI = l := by
  rw [List.map_map]
  conv => rhs; rw [← List.map_id l]
  exact List.map_congr_left (fun f hf => fieldI_T (h f hf))

theorem dec_head (u : Nat) : 1 ≤ u → ∀ c r, Lib.decDigits u = c :: r → 49 ≤ c.toNat := by
  induction u using Nat.strongRecOn with
  | _ u ih =>
    intro hu c r he
    by_cases h : u < 10
    · rw [Lib.decDigits, dif_pos h] at he
      have := (List.cons.inj he).1
      rw [← this, dig_val u h]; omega
    · rw [Lib.decDigits, dif_neg h] at he
      obtain ⟨c', r', e'⟩ : ∃ c' r', Lib.decDigits (u / 10) = c' :: r' := by
        cases hd : Lib.decDigits (u / 10) with
        | nil => exact absurd hd (dec_ne _)
        | cons c' r' => exact ⟨c', r', rfl⟩
      have := ih (u / 10) (by omega) (by omega) c' r' e'
      rw [e', List.cons_append] at he
      rw [← (List.cons.inj he).1]; exact this

theorem canon_dec (u : Nat) : CanonD (Lib.decDigits u) := by
  refine ⟨dec_ne u, dec_dig u, fun hl => ?_⟩
  intro he
  have hu : 1 ≤ u := by
    rcases Nat.lt_or_ge u 1 with h | h
    · obtain rfl : u = 0 := by omega
      rw [Lib.decDigits, dif_pos (by omega)] at hl; simp at hl
    · exact h
  cases hd : Lib.decDigits u with
  | nil => exact dec_ne u hd
  | cons c r =>
    have := dec_head u hu c r hd
    rw [hd] at he
    simp at he
    rw [he] at this
    exact absurd this (by decide)

theorem dec_of_val : ∀ (n : Nat) (l : List UInt8), l.length = n → CanonD l → Lib.decDigits (valD 0 l) = l
  | 0, l, hn, h => absurd (List.length_eq_zero_iff.1 hn) h.1
  | n + 1, l, hn, h => by
    obtain ⟨a, c, rfl⟩ : ∃ a c, l = a ++ [c] := ⟨l.dropLast, l.getLast h.1, (List.dropLast_concat_getLast h.1).symm⟩
    have hc := h.2.1 c (by simp)
    unfold isD at hc
    have hcc : UInt8.ofNat (48 + (c.toNat - 48)) = c := UInt8.toNat_inj.1 (by rw [dig_val _ (by omega)]; omega)
    have ev : valD 0 (a ++ [c]) = valD 0 a * 10 + (c.toNat - 48) := by rw [valD_append, valD_cons, valD_nil]
    by_cases ha : a = []
    · subst ha
      rw [ev, valD_nil, Nat.zero_mul, Nat.zero_add, Lib.decDigits, dif_pos (by omega), hcc]; rfl
    · obtain ⟨x, r, rfl⟩ : ∃ x r, a = x :: r := by
        cases a with
        | nil => exact absurd rfl ha
        | cons x r => exact ⟨x, r, rfl⟩
      have hx := h.2.1 x (by simp)
      unfold isD at hx
      have hx48 : x ≠ 48 := fun e => h.2.2 (by simp) (by simp [e])
      have hx49 : 49 ≤ x.toNat := by
        rcases Nat.lt_or_ge x.toNat 49 with h1 | h1
        · exact absurd (UInt8.toNat_inj.1 (show x.toNat = (48 : UInt8).toNat by show _ = 48; omega)) hx48
        · exact h1
      have hge := valD_ge r (0 * 10 + (x.toNat - 48))
      have hv : 1 ≤ valD 0 (x :: r) := by rw [valD_cons]; omega
      have hcan : CanonD (x :: r) := ⟨by simp, fun y hy => h.2.1 y (List.mem_append_left _ hy), fun _ => by simpa using hx48⟩
      have ih := dec_of_val n (x :: r) (by simp at hn ⊢; omega) hcan
      rw [ev, Lib.decDigits, dif_neg (by omega), show (valD 0 (x :: r) * 10 + (c.toNat - 48)) / 10 = valD 0 (x :: r) by omega, show (valD 0 (x :: r) * 10 + (c.toNat - 48)) % 10 = c.toNat - 48 by omega, ih, hcc]

theorem valD_lt : ∀ (l : List UInt8) (acc : Nat), (∀ c ∈ l, isD c) → valD acc l < (acc + 1) * 10 ^ l.length
  | [], acc, _ => by rw [valD_nil]; simp
  | c :: l, acc, h => by
    have hc := h c (by simp)
    unfold isD at hc
    have h1 := valD_lt l (acc * 10 + (c.toNat - 48)) (fun x hx => h x (List.mem_cons_of_mem _ hx))
    rw [valD_cons, List.length_cons, Nat.pow_succ, Nat.mul_comm (10 ^ l.length) 10, ← Nat.mul_assoc]
    refine Nat.lt_of_lt_of_le h1 (Nat.mul_le_mul_right _ (by omega))

theorem figB_yes {s : ByteArray} {u : Nat} : figB s = (u : Int) ↔ u ≤ 999999999 ∧ Lib.decDigits u = s.data.toList := by
  constructor
  · intro h
    unfold figB at h
    split at h
    · rename_i hc
      have hu : valD 0 s.data.toList = u := by omega
      have hl := valD_lt s.data.toList 0 hc.1.2.1
      have hp : 10 ^ s.data.toList.length ≤ 10 ^ 9 := Nat.pow_le_pow_right (by decide) hc.2
      have e9 : (10 : Nat) ^ 9 = 1000000000 := by decide
      refine ⟨by omega, ?_⟩
      rw [← hu]; exact dec_of_val _ _ rfl hc.1
    · omega
  · rintro ⟨h1, h2⟩
    have hs : s.size ≤ 9 := by
      have h3 := nDigits_le 8 u (by omega)
      rw [← Lib.decDigits_length, h2] at h3; exact h3
    have hcan := canon_dec u
    rw [h2] at hcan
    unfold figB
    rw [if_pos ⟨hcan, hs⟩, ← h2, dec_val]

theorem figB_decN (u : Nat) (h : u ≤ 999999999) : figB (decN u) = (u : Int) := figB_yes.2 ⟨h, by unfold decN; simp⟩

theorem fieldS_T {f : S75} (h : fieldN f) : fieldS (fieldT f) = f := by
  have hp := h.2
  unfold fieldP at hp
  unfold fieldS
  rcases fieldT_pieces h with ⟨e, _, h1⟩ | ⟨e, _, h1⟩ | ⟨e, _, h1⟩
  · rw [h1]
    have := figB_decN f.f2.toNat (by omega)
    simp only [if_true, this]
    exact fieldN_eta e (by omega)
  · rw [h1]
    simp only [if_true]
    exact fieldN_eta e (by omega)
  · rw [h1]
    simp only [if_neg (show ¬ (⟨#[116, 97, 103]⟩ : ByteArray) = (⟨#[110, 117, 109]⟩ : ByteArray) by decide), if_true]
    exact fieldN_eta e (by omega)

theorem map_fieldS {l : List S75} (h : ∀ f ∈ l, fieldN f) : (l.map fieldT).map fieldS = l := by
  rw [List.map_map]
  conv => rhs; rw [← List.map_id l]
  exact List.map_congr_left (fun f hf => fieldS_T (h f hf))

theorem fields_back {l : List S75} (h : fieldsB l = true) : fieldsI (joinT (l.map fieldT) sp) = l ∧ fieldsS (joinT (l.map fieldT) sp) = l := by
  have hN := fieldN_of h
  have hb := (fieldsB_iff.1 h).2
  have hno : ∀ x ∈ l.map fieldT, (32 : UInt8) ∉ x.data.toList := by
    intro x hx
    obtain ⟨f, hf, rfl⟩ := List.mem_map.1 hx
    exact fieldT_no (hN f hf)
  unfold fieldsI fieldsS
  have hp : splitT 32 (joinT (l.map fieldT) sp) = l.map fieldT ∧ cutT 32 4 (joinT (l.map fieldT) sp) = l.map fieldT := by
    cases hl : l.map fieldT with
    | nil => have := congrArg List.length hl; rw [List.length_map] at this; simp at this; rw [this] at hb; simp at hb
    | cons x xs =>
      have := congrArg List.length hl
      rw [List.length_map, List.length_cons] at this
      rw [hl] at hno
      exact ⟨splitT_joinT 32 x xs hno, cutT_joinT 32 4 x xs hno (by omega)⟩
  rw [hp.1, hp.2]
  exact ⟨map_fieldI hN, map_fieldS hN⟩

theorem fieldsGet_same (s : ByteArray) : fieldsRes s (fieldsI s) = fieldsRes s (fieldsS s) := by
  by_cases h : ∃ l, fieldsB l = true ∧ joinT (l.map fieldT) sp = s
  · obtain ⟨l, h1, h2⟩ := h
    have := fields_back h1
    rw [h2] at this
    rw [this.1, this.2]
  · rw [fieldsRes_neg (fun h1 h2 => h ⟨_, h1, h2⟩), fieldsRes_neg (fun h1 h2 => h ⟨_, h1, h2⟩)]

theorem cutT_size {c : UInt8} {n : Nat} {s p : ByteArray} (h : p ∈ cutT c n s) : p.size ≤ s.size := by
  obtain ⟨x, hx, rfl⟩ := List.mem_map.1 h
  have := cutW_size c _ _ _ x hx
  rw [data_size] at this
  rw [mkT_size]; simpa using this

theorem fieldS_size (s : ByteArray) : (fieldS s).f0.size ≤ s.size := by
  have hm : ∀ x ∈ cutT 58 2 s, x.size ≤ s.size := fun x hx => cutT_size hx
  unfold fieldS
  match hc : cutT 58 2 s with
  | [] => exact Nat.le_refl _
  | [a] => exact hm a (by rw [hc]; simp)
  | [a, b] =>
    have ha := hm a (by rw [hc]; simp)
    simp only
    repeat (split; exact ha)
    exact ha
  | [a, b, c] =>
    have ha := hm a (by rw [hc]; simp)
    simp only
    repeat (split; exact ha)
    exact ha
  | a :: b :: c :: e :: r => exact Nat.le_refl _

theorem canon_not {l : List UInt8} {i : Nat} (h : i < l.length) (hd : ¬ isD l[i]) : ¬ CanonD l := fun hc => hd (hc.2.1 _ (List.getElem_mem h))

theorem valD_step {l : List UInt8} {i : Nat} (h : i < l.length) : valD 0 (l.take (i + 1)) = valD 0 (l.take i) * 10 + (l[i].toNat - 48) := by
  rw [List.take_add_one, List.getElem?_eq_getElem h]
  show valD 0 (l.take i ++ [l[i]]) = _
  rw [valD_append, valD_cons, valD_nil]

theorem bt_u8 (s : ByteArray) (i : Nat) (h : i < s.data.toList.length) : bt s (i : Int) = ((s.data.toList[i]).toNat : Int) := by
  rw [bt_get s i (by rw [bytesOf_length]; exact h)]
  unfold bytesOf
  rw [List.getElem_map]

theorem l1Figures_l0 (s : ByteArray) (hs : s.size ≤ 1099511627776) : ∀ (d i : Nat), i + d = s.size → i ≤ 9 → (∀ c ∈ s.data.toList.take i, isD c) →
    Ev (fun k => spec_l1Figures.l0 k s ((valD 0 (s.data.toList.take i) : Nat) : Int) (i : Int)) (figB s) := by
  have hlen := data_size s
  intro d
  induction d with
  | zero =>
    intro i hi h9 hd
    refine Ev.step (fun k => spec_l1Figures.l0.eq_2 _ _ _ _) ?_
    have et : s.data.toList.take i = s.data.toList := List.take_of_length_le (by omega)
    rw [et] at hd ⊢
    simp only [if_neg (show ¬ ((i : Int) < (s.size : Int)) by omega)]
    by_cases h0 : s.size = 0
    · have e0 : figB s = -1 := by unfold figB; rw [if_neg (fun hc => hc.1.1 (List.length_eq_zero_iff.1 (by omega)))]
      rw [e0]
      simp only [if_pos (show (s.size : Int) = 0 by omega)]
      exact Ev.now _
    · simp only [if_neg (show ¬ (s.size : Int) = 0 by omega)]
      have hne : s.data.toList ≠ [] := fun e => h0 (by rw [← hlen, e]; rfl)
      by_cases h1 : (s.size : Int) > 1
      · have hb := bt_u8 s 0 (by omega)
        have hb0 : bt s 0 = ((s.data.toList[0]'(by omega)).toNat : Int) := hb
        simp only [if_pos h1, if_pos (show 0 < (s.size : Int) by omega), hb0]
        have hh : s.data.toList.head? = some (s.data.toList[0]'(by omega)) := by
          rw [List.head?_eq_getElem?, List.getElem?_eq_getElem]
        by_cases h48 : ((s.data.toList[0]'(by omega)).toNat : Int) = 48
        · have e48 : s.data.toList[0]'(by omega) = 48 := UInt8.toNat_inj.1 (show _ = 48 by omega)
          have e0 : figB s = -1 := by unfold figB; rw [if_neg (fun hc => hc.1.2.2 (by omega) (by rw [hh, e48]))]
          rw [e0]
          simp only [if_pos h48]
          exact Ev.now _
        · have e0 : figB s = ((valD 0 s.data.toList : Nat) : Int) := by unfold figB; rw [if_pos ⟨⟨hne, hd, fun _ he => by rw [hh] at he; exact h48 (by rw [Option.some.inj he]; rfl)⟩, by omega⟩]
          rw [e0]
          simp only [if_neg h48]
          exact Ev.now _
      · have e0 : figB s = ((valD 0 s.data.toList : Nat) : Int) := by unfold figB; rw [if_pos ⟨⟨hne, hd, fun h => by omega⟩, by omega⟩]
        rw [e0]
        simp only [if_neg h1]
        exact Ev.now _
  | succ d ih =>
    intro i hi h9 hd
    have hil : i < s.data.toList.length := by omega
    have hb := bt_u8 s i hil
    refine Ev.step (fun k => spec_l1Figures.l0.eq_2 _ _ _ _) ?_
    simp only [if_pos (show ((i : Int) < (s.size : Int)) by omega), if_pos (show 0 ≤ (i : Int) by omega), hb]
    have hno : ∀ (h : ¬ isD s.data.toList[i]), figB s = -1 := fun h => by unfold figB; rw [if_neg (fun hc => canon_not hil h hc.1)]
    by_cases h1 : ((s.data.toList[i]).toNat : Int) < 48
    · simp only [if_pos h1]
      rw [hno (by unfold isD; omega)]; exact Ev.now _
    · by_cases h2 : ((s.data.toList[i]).toNat : Int) > 57
      · simp only [if_neg h1, if_pos h2]
        rw [hno (by unfold isD; omega)]; exact Ev.now _
      · by_cases h3 : (i : Int) ≥ 9
        · simp only [if_neg h1, if_neg h2, if_pos h3]
          have : figB s = -1 := by unfold figB; rw [if_neg (fun hc => by have := hc.2; omega)]
          rw [this]; exact Ev.now _
        · have hlt := valD_lt (s.data.toList.take i) 0 hd
          have hl1 : (s.data.toList.take i).length = i := by rw [List.length_take]; omega
          rw [hl1] at hlt
          have hp : 10 ^ i ≤ 10 ^ 9 := Nat.pow_le_pow_right (by decide) (by omega)
          have e9 : (10 : Nat) ^ 9 = 1000000000 := by decide
          have hstep := valD_step hil
          have ew : wrap64 (wrap64 (((valD 0 (s.data.toList.take i) : Nat) : Int) * 10) + ((((s.data.toList[i]).toNat : Int) - 48) % 256)) = ((valD 0 (s.data.toList.take (i + 1)) : Nat) : Int) := by
            rw [hstep, wrap_id (x := ((valD 0 (s.data.toList.take i) : Nat) : Int) * 10) (by omega) (by omega), wrap_id (by omega) (by omega)]
            omega
          simp only [if_neg h1, if_neg h2, if_neg h3, ew, wsucc i (by omega)]
          refine ih (i + 1) (by omega) (by omega) (fun c hc => ?_)
          rw [List.take_add_one, List.getElem?_eq_getElem hil] at hc
          rcases List.mem_append.1 hc with h | h
          · exact hd c h
          · have : c = s.data.toList[i] := by simpa using h
            rw [this]; unfold isD; omega

theorem spec_l1Figures_ev (s : ByteArray) (hs : s.size ≤ 1099511627776) : Ev (fun k => spec_l1Figures.f k s) (figB s) := by
  have := l1Figures_l0 s hs s.size 0 (by omega) (by omega) (fun c hc => by simp at hc)
  simpa [spec_l1Figures.f, valD_nil] using this

theorem toNat_cast (i : Nat) : ((i : Int)).toNat = i := by simp

theorem extract_mkT (s : ByteArray) (a b : Nat) : s.extract a b = mkT ((s.data.toList.drop a).take (b - a)) := by
  rw [← mkT_data (s.extract a b), Lib.extract_data]

theorem take_rest (l : List UInt8) {f i : Nat} (hf : f ≤ i) : (l.drop f).take (i - f) ++ l.drop i = l.drop f := by
  have := List.take_append_drop (i - f) (l.drop f)
  rw [List.drop_drop, show f + (i - f) = i by omega] at this
  exact this

theorem take_step {l : List UInt8} {f i : Nat} (hf : f ≤ i) (hi : i < l.length) : (l.drop f).take (i + 1 - f) = (l.drop f).take (i - f) ++ [l[i]] := by
  have e : i + 1 - f = (i - f) + 1 := by omega
  rw [e, List.take_add_one, List.getElem?_drop, show f + (i - f) = i by omega, List.getElem?_eq_getElem hi]; rfl

theorem u8_eq_iff (a b : UInt8) : ((a.toNat : Int) = (b.toNat : Int)) ↔ a = b := ⟨fun h => UInt8.toNat_inj.1 (by omega), fun h => by rw [h]⟩

theorem l1Cut_l0 (c : UInt8) (s : ByteArray) (hs : s.size ≤ 1099511627776) (most : Nat) : ∀ (d i f n : Nat) (out : List ByteArray), i + d = s.size → f ≤ i → out.length + n = most → out.length ≤ i →
    Ev (fun k => spec_l1Cut.l0 k s (c.toNat : Int) (most : Int) out (f : Int) (i : Int)) (out ++ (cutW c n ((s.data.toList.drop f).take (i - f)) (s.data.toList.drop i)).map mkT) := by
  have hlen := data_size s
  have fin : ∀ (i f : Nat) (out : List ByteArray), f ≤ i → i ≤ s.size → out.length ≤ i → ∀ k, spec_l1Cut.j1 (k + 1) s (c.toNat : Int) (most : Int) out (f : Int) (i : Int) false = some (out ++ [mkT (s.data.toList.drop f)]) := by
    intro i f out hf hi ho k
    have e := extract_mkT s f s.size
    rw [List.take_of_length_le (by rw [List.length_drop]; omega)] at e
    rw [spec_l1Cut.j1.eq_2]
    simp only [if_neg (show ¬ (false = true) by decide), if_pos (show 0 ≤ (f : Int) by omega), if_pos (show (f : Int) ≤ (s.size : Int) by omega), if_pos (show out.length < 8796093022208 by omega), toNat_cast, e]
  have finE : ∀ (i f : Nat) (out : List ByteArray), f ≤ i → i ≤ s.size → out.length ≤ i → Ev (fun k => spec_l1Cut.j1 k s (c.toNat : Int) (most : Int) out (f : Int) (i : Int) false) (out ++ [mkT (s.data.toList.drop f)]) := by
    intro i f out hf hi ho
    refine ⟨1, fun k hk => ?_⟩
    obtain ⟨k, rfl⟩ : ∃ m, k = m + 1 := ⟨k - 1, by omega⟩
    exact fin i f out hf hi ho k
  intro d
  induction d with
  | zero =>
    intro i f n out hi hf hn ho
    refine Ev.step (fun k => spec_l1Cut.l0.eq_2 _ _ _ _ _ _ _) ?_
    simp only [if_neg (show ¬ ((i : Int) < (s.size : Int)) by omega)]
    have e := take_rest s.data.toList hf
    have e0 : s.data.toList.drop i = [] := List.drop_eq_nil_of_le (by omega)
    rw [e0, List.append_nil] at e
    have hc : cutW c n ((s.data.toList.drop f).take (i - f)) (s.data.toList.drop i) = [s.data.toList.drop f] := by
      rw [e0, e]; cases n <;> rfl
    rw [hc]
    exact finE i f out hf (by omega) ho
  | succ d ih =>
    intro i f n out hi hf hn ho
    refine Ev.step (fun k => spec_l1Cut.l0.eq_2 _ _ _ _ _ _ _) ?_
    simp only [if_pos (show ((i : Int) < (s.size : Int)) by omega)]
    cases n with
    | zero =>
      rw [decide_eq_false (show ¬ (out.length : Int) < (most : Int) by omega), cutW_zero, take_rest _ hf]
      exact finE i f out hf (by omega) ho
    | succ n =>
      rw [decide_eq_true (show (out.length : Int) < (most : Int) by omega)]
      refine Ev.step (fun k => spec_l1Cut.j1.eq_2 _ _ _ _ _ _ _ _) ?_
      have hil : i < s.data.toList.length := by omega
      have ed : s.data.toList.drop i = s.data.toList[i] :: s.data.toList.drop (i + 1) := List.drop_eq_getElem_cons hil
      rw [ed]
      simp only [if_true, if_pos (show 0 ≤ (i : Int) by omega), if_pos (show ((i : Int) < (s.size : Int)) by omega), bt_u8 s i hil, u8_eq_iff, wsucc i (by omega)]
      by_cases hb : s.data.toList[i] = c
      · have e := extract_mkT s f i
        rw [cutW, if_pos hb]
        simp only [if_pos hb, if_pos (show 0 ≤ (f : Int) by omega), if_pos (show (f : Int) ≤ (i : Int) by omega), if_pos (show (i : Int) ≤ (s.size : Int) by omega), if_pos (show out.length < 8796093022208 by omega), toNat_cast, e]
        have h := ih (i + 1) (i + 1) n (out ++ [mkT ((s.data.toList.drop f).take (i - f))]) (by omega) (Nat.le_refl _) (by simp; omega) (by simp; omega)
        rw [Nat.sub_self, List.take_zero, List.append_assoc] at h
        exact h
      · rw [cutW, if_neg hb]
        simp only [if_neg hb]
        have h := ih (i + 1) f (n + 1) out (by omega) (by omega) hn (by omega)
        rw [take_step hf hil] at h
        exact h

theorem spec_l1Cut_ev (c : UInt8) (n : Nat) (s : ByteArray) (hs : s.size ≤ 1099511627776) : Ev (fun k => spec_l1Cut.f k s (c.toNat : Int) (n : Int)) (cutT c n s) := by
  simp only [spec_l1Cut.f, cutT]
  have := l1Cut_l0 c s hs n s.size 0 0 n [] (by omega) (Nat.le_refl _) (by simp) (by simp)
  simpa using this

theorem cutT_length (c : UInt8) (n : Nat) (s : ByteArray) : (cutT c n s).length ≤ s.size + 1 ∧ (cutT c n s).length ≤ n + 1 ∧ 1 ≤ (cutT c n s).length := by
  unfold cutT
  have := cutW_length c s.data.toList n []
  rw [List.length_map]; rw [data_size] at this; omega

theorem spec_l2Get_ev (s : ByteArray) (hs : s.size ≤ 1048576) : Ev (fun k => spec_l2Get.f k s) ((fieldS s).f0, (fieldS s).f1, (fieldS s).f2) := by
  simp only [spec_l2Get.f]
  refine Ev.bind (spec_l1Cut_ev 58 2 s (by omega)) ?_
  have hl := cutT_length 58 2 s
  unfold fieldS
  match hc : cutT 58 2 s with
  | [] => rw [hc] at hl; simp at hl
  | [a] =>
    have r0 : rdOf ByteArray.empty [a] 0 = a := rfl
    have l1 : (([a] : List ByteArray).length : Int) = 1 := rfl
    simp only [l1, r0, if_pos (show (0 : Int) < 1 by decide), if_neg (show ¬ (1 : Int) = 3 by decide)]
    refine Ev.step (fun k => spec_l2Get.j0.eq_2 _ _ _ _ _ _) ?_
    simp only [l1, if_neg (show ¬ (false = true) by decide), if_neg (show ¬ (1 : Int) = 2 by decide)]
    refine Ev.step (fun k => spec_l2Get.j1.eq_2 _ _ _ _ _ _) ?_
    simp only [l1, if_neg (show ¬ (false = true) by decide), if_neg (show ¬ (1 : Int) = 2 by decide)]
    exact Ev.now _
  | [a, b] =>
    have r0 : rdOf ByteArray.empty [a, b] 0 = a := rfl
    have r1 : rdOf ByteArray.empty [a, b] 1 = b := rfl
    have l1 : (([a, b] : List ByteArray).length : Int) = 2 := rfl
    simp only [l1, r0, if_pos (show (0 : Int) < 2 by decide), if_neg (show ¬ (2 : Int) = 3 by decide)]
    refine Ev.step (fun k => spec_l2Get.j0.eq_2 _ _ _ _ _ _) ?_
    simp only [l1, r1, if_neg (show ¬ (false = true) by decide), if_true, if_pos (show (1 : Int) < 2 by decide)]
    refine Ev.step (fun k => spec_l2Get.j1.eq_2 _ _ _ _ _ _) ?_
    simp only [l1, r1, beq_iff_eq, is_num, is_tag, if_true, if_pos (show (1 : Int) < 2 by decide)]
    by_cases c2 : b = (⟨#[110, 117, 109]⟩ : ByteArray)
    · simp only [if_pos c2]; exact Ev.now _
    · simp only [if_neg c2]
      by_cases c3 : b = (⟨#[116, 97, 103]⟩ : ByteArray)
      · simp only [if_pos c3]; exact Ev.now _
      · simp only [if_neg c3]; exact Ev.now _
  | [a, b, c] =>
    have hcs : c.size ≤ 1048576 := by have := cutT_size (c := 58) (n := 2) (s := s) (p := c) (by rw [hc]; simp); omega
    have r0 : rdOf ByteArray.empty [a, b, c] 0 = a := rfl
    have r1 : rdOf ByteArray.empty [a, b, c] 1 = b := rfl
    have r2 : rdOf ByteArray.empty [a, b, c] 2 = c := rfl
    have l1 : (([a, b, c] : List ByteArray).length : Int) = 3 := rfl
    simp only [l1, r0, r1, if_pos (show (0 : Int) < 3 by decide), if_true, if_pos (show (1 : Int) < 3 by decide)]
    refine Ev.step (fun k => spec_l2Get.j0.eq_2 _ _ _ _ _ _) ?_
    simp only [l1, r2, beq_iff_eq, is_text, if_pos (show (2 : Int) < 3 by decide), if_neg (show ¬ (3 : Int) = 2 by decide)]
    by_cases c1 : b = (⟨#[116, 101, 120, 116]⟩ : ByteArray)
    · simp only [if_pos c1]
      exact Ev.bind (spec_l1Figures_ev c (by omega)) (Ev.now _)
    · simp only [if_neg c1]
      refine Ev.step (fun k => spec_l2Get.j1.eq_2 _ _ _ _ _ _) ?_
      simp only [l1, if_neg (show ¬ (false = true) by decide), if_neg (show ¬ (3 : Int) = 2 by decide)]
      exact Ev.now _
  | a :: b :: c :: e :: r => rw [hc] at hl; simp only [List.length_cons] at hl; omega

theorem spec_l2Put_evB (l : List S75) (h : fieldsB l = true) : Ev (fun k => spec_l2Put.f k l) (joinT (l.map fieldT) sp) := by
  obtain ⟨h1, h2⟩ := good_of_fields h
  simp only [spec_l2Put.f]
  have hx := spec_l2Put_l0 l h2 h1 l.length 0 (⟨#[]⟩ : ByteArray) (by omega) (by have : (⟨#[]⟩ : ByteArray).size = 0 := rfl; omega)
  rw [if_neg (by omega), List.drop_zero] at hx
  have e : (⟨#[]⟩ : ByteArray) ++ joinT (l.map fieldT) sp = joinT (l.map fieldT) sp := ByteArray.empty_append
  rw [e] at hx
  exact hx

theorem spec_FieldsGet_l0 (s : ByteArray) (L : List ByteArray) (hL : L.length ≤ 1048577) (hx : ∀ x ∈ L, x.size ≤ 1048576) : ∀ (d i : Nat) (acc : List S75), i + d = L.length → acc.length ≤ i → (∀ x ∈ acc, x.f0.size ≤ 1048576) →
    Ev (fun k => spec_FieldsGet.l0 k s acc L (i : Int)) (fieldsRes s (acc ++ (L.drop i).map fieldS)) := by
  intro d
  induction d with
  | zero =>
    intro i acc hi ha hsz
    refine Ev.step (fun k => spec_FieldsGet.l0.eq_2 _ _ _ _ _) ?_
    simp only [if_neg (show ¬ ((i : Int) < (L.length : Int)) by omega)]
    rw [List.drop_eq_nil_of_le (by omega), List.map_nil, List.append_nil]
    refine Ev.bind (spec_FieldsOk_ev acc (by omega) hsz) ?_
    simp only [fieldsRes]
    cases hf : fieldsB acc with
    | false => exact Ev.now _
    | true =>
      simp only [if_true]
      refine Ev.bind (spec_l2Put_evB acc hf) ?_
      simp only [toList_inj]
      by_cases hp : joinT (acc.map fieldT) sp = s
      · simp only [if_pos hp]; exact Ev.now _
      · simp only [if_neg hp]; exact Ev.now _
  | succ d ih =>
    intro i acc hi ha hsz
    have hxi := hx L[i] (List.getElem_mem _)
    have hfs := fieldS_size L[i]
    have h := ih (i + 1) (acc ++ [fieldS L[i]]) (by omega) (by simp; omega) (fun x hx => by
      rcases List.mem_append.1 hx with h | h
      · exact hsz x h
      · rw [List.mem_singleton.1 h]; omega)
    rw [List.append_assoc] at h
    refine Ev.step (fun k => spec_FieldsGet.l0.eq_2 _ _ _ _ _) ?_
    rw [drop_get L i (by omega), List.map_cons]
    simp only [if_pos (show ((i : Int) < (L.length : Int)) by omega), if_pos (show 0 ≤ (i : Int) by omega), rdOf_get _ L i (by omega)]
    refine Ev.bind (spec_l2Get_ev L[i] hxi) ?_
    simp only [if_pos (show acc.length < 4398046511104 by omega), wsucc i (by omega)]
    exact h

theorem spec_FieldsGet_ev (s : ByteArray) (hs : s.size ≤ 1048576) : Ev (fun k => spec_FieldsGet.f k s) (fieldsRes s (fieldsI s)) := by
  have hlen := cutT_length 32 4 s
  rw [fieldsGet_same]
  simp only [spec_FieldsGet.f]
  refine Ev.bind (spec_l1Cut_ev 32 4 s (by omega)) ?_
  exact spec_FieldsGet_l0 s (cutT 32 4 s) (by omega) (fun x hx => by have := cutT_size hx; omega) (cutT 32 4 s).length 0 [] (by omega) (by simp) (fun x hx => by simp at hx)

/-- What a code reads as: at most 2000 bytes. -/
def CodeOk (s : List Int) : Prop := s.length ≤ 2000 ∧ ∀ c ∈ s, 0 ≤ c ∧ c ≤ 255

theorem l1Open_eq (s : List Int) (hb : ∀ c ∈ s, 0 ≤ c ∧ c ≤ 255) : ∃ s', spec_l1Open.f s = some (s', 0) ∧ CodeOk s' := by
  unfold spec_l1Open.f
  by_cases h : (s.length : Int) > 2000
  · rw [if_pos h, if_pos (by omega)]
    exact ⟨_, rfl, by rw [List.length_take]; omega, fun c hc => hb c (List.mem_of_mem_take hc)⟩
  · rw [if_neg h]
    exact ⟨_, rfl, by omega, hb⟩

theorem CodeOk.byte {s : List Int} (h : CodeOk s) (i : Int) : 0 ≤ rd s i ∧ rd s i ≤ 255 := by
  unfold rd
  rw [List.getD_eq_getElem?_getD]
  rcases Nat.lt_or_ge i.toNat s.length with hi | hi
  · rw [List.getElem?_eq_getElem hi]; exact h.2 _ (List.getElem_mem _)
  · rw [List.getElem?_eq_none hi]; simp

theorem tdiv_nn {a b : Int} (ha : 0 ≤ a) (hb : 0 < b) : 0 ≤ Int.tdiv a b ∧ Int.tdiv a b ≤ a := by
  rw [Int.tdiv_eq_ediv_of_nonneg ha]
  exact ⟨Int.ediv_nonneg ha (by omega), Int.ediv_le_self _ ha⟩

theorem tmod_nn {a b : Int} (ha : 0 ≤ a) (hb : 0 < b) : 0 ≤ Int.tmod a b ∧ Int.tmod a b < b := by
  rw [Int.tmod_eq_emod_of_nonneg ha]
  exact ⟨Int.emod_nonneg _ (by omega), Int.emod_lt_of_pos _ hb⟩

theorem xor_i64 (a b : Nat) (ha : a < 2 ^ 62) (hb : b < 2 ^ 62) : ∃ m : Nat, Go.bits .xor .i64 (a : Int) (b : Int) = (m : Int) ∧ m < 2 ^ 62 := by
  have ha' : a % 2 ^ IntKind.i64.bits = a := Nat.mod_eq_of_lt (Nat.lt_of_lt_of_le ha (by decide))
  have hb' : b % 2 ^ IntKind.i64.bits = b := Nat.mod_eq_of_lt (Nat.lt_of_lt_of_le hb (by decide))
  have hx := Nat.xor_lt_two_pow ha hb
  refine ⟨a ^^^ b, ?_, hx⟩
  simp only [Go.bits, BitVec.ofInt_natCast, BitVec.toNat_xor, BitVec.toNat_ofNat, ha', hb']
  rw [IntKind.wrap_i64]
  have : ((a ^^^ b : Nat) : Int) < 4611686018427387904 := by have := hx; omega
  omega

theorem pick_ev (s : List Int) (hs : CodeOk s) (p n : Int) (hp : 0 ≤ p) (hp1 : p ≤ 1000000) (hn : 1 ≤ n) (hn1 : n ≤ 1000000) :
    ∃ r, Ev (fun k => spec_l1Rd_pick.f k s p n) (r, p + 1) ∧ 0 ≤ r ∧ r < n := by
  simp only [spec_l1Rd_pick.f, if_neg (show ¬ n < 1 by omega), wrap_id (x := p + 1) (by omega) (by omega)]
  by_cases h0 : s.length = 0
  · refine ⟨0, Ev.step (fun k => spec_l1Rd_pick.j0.eq_2 _ _ _ _ _) ?_, by omega, by omega⟩
    simp only [show ((s.length : Int) == 0) = true by simp [h0], if_true]
    exact Ev.now _
  · have hl : 0 < (s.length : Int) := by omega
    have hb : ((s.length : Int) == 0) = false := by simp; intro h; exact h0 (by rw [h]; rfl)
    have e1 : wrap64 (p + 1 - 1) = p := by rw [wrap_id (by omega) (by omega)]; omega
    by_cases hlt : p < (s.length : Int)
    · have hc := hs.byte p
      refine ⟨Int.tmod (rd s p) n, Ev.step (fun k => spec_l1Rd_pick.j0.eq_2 _ _ _ _ _) ?_, (tmod_nn hc.1 (by omega)).1, (tmod_nn hc.1 (by omega)).2⟩
      simp only [hb, if_neg (show ¬ (false = true) by decide), e1, if_pos hlt, if_pos hp, if_neg (show ¬ n = 0 by omega), wrap_id (x := rd s p) (by omega) (by omega)]
      exact Ev.now _
    · have m1 := tmod_nn hp hl
      have e2 : wrap64 (wrap64 (p * 7) + 3) = p * 7 + 3 := by rw [wrap_id (x := p * 7) (by omega) (by omega), wrap_id (by omega) (by omega)]
      have m2 := tmod_nn (show 0 ≤ p * 7 + 3 by omega) hl
      have d1 := tdiv_nn hp hl
      obtain ⟨A, hA⟩ : ∃ A, rd s (Int.tmod p (s.length : Int)) = A := ⟨_, rfl⟩
      obtain ⟨B, hB⟩ : ∃ B, rd s (Int.tmod (p * 7 + 3) (s.length : Int)) = B := ⟨_, rfl⟩
      obtain ⟨C, hC⟩ : ∃ C, Int.tdiv p (s.length : Int) = C := ⟨_, rfl⟩
      have a1 := hs.byte (Int.tmod p (s.length : Int)); rw [hA] at a1
      have b1 := hs.byte (Int.tmod (p * 7 + 3) (s.length : Int)); rw [hB] at b1
      rw [hC] at d1
      have v1 : wrap64 (wrap64 (wrap64 (wrap64 (wrap64 A * 131) + wrap64 (wrap64 B * 1117)) + wrap64 (p * 29)) + wrap64 (wrap64 C * 53)) = A * 131 + B * 1117 + p * 29 + C * 53 := by
        rw [wrap_id (x := A) (by omega) (by omega), wrap_id (x := B) (by omega) (by omega), wrap_id (x := C) (by omega) (by omega), wrap_id (x := A * 131) (by omega) (by omega), wrap_id (x := B * 1117) (by omega) (by omega), wrap_id (x := p * 29) (by omega) (by omega), wrap_id (x := C * 53) (by omega) (by omega), wrap_id (x := A * 131 + B * 1117) (by omega) (by omega), wrap_id (x := A * 131 + B * 1117 + p * 29) (by omega) (by omega), wrap_id (by omega) (by omega)]
      obtain ⟨V, hV⟩ : ∃ V : Nat, A * 131 + B * 1117 + p * 29 + C * 53 = (V : Int) := ⟨(A * 131 + B * 1117 + p * 29 + C * 53).toNat, by omega⟩
      have hVb : V < 2 ^ 62 := by have : (2 : Nat) ^ 62 = 4611686018427387904 := by decide
                                  omega
      have hd := tdiv_nn (show 0 ≤ (V : Int) by omega) (show (0 : Int) < 64 by omega)
      obtain ⟨Q, hQ⟩ : ∃ Q : Nat, Int.tdiv (V : Int) 64 = (Q : Int) := ⟨(Int.tdiv (V : Int) 64).toNat, by omega⟩
      have hQb : Q < 2 ^ 62 := by omega
      obtain ⟨m, hm, hmb⟩ := xor_i64 V Q hVb hQb
      have e3 : wrap64 (Int.tdiv (V : Int) 64) = (Q : Int) := by
        have : (2 : Nat) ^ 62 = 4611686018427387904 := by decide
        rw [hQ, wrap_id (by omega) (by omega)]
      have mm := tmod_nn (show 0 ≤ (m : Int) by omega) (show 0 < n by omega)
      refine ⟨Int.tmod (m : Int) n, Ev.step (fun k => spec_l1Rd_pick.j0.eq_2 _ _ _ _ _) ?_, mm.1, mm.2⟩
      simp only [hb, if_neg (show ¬ (false = true) by decide), e1, if_neg hlt, if_neg (show ¬ (s.length : Int) = 0 by omega), if_pos m1.1, if_pos m1.2, e2, if_pos m2.1, if_pos m2.2, if_neg (show ¬ n = 0 by omega), hA, hB, hC, v1, hV, e3, hm]
      exact Ev.now _

theorem of_ev (s : List Int) (hs : CodeOk s) (p : Int) (l : List ByteArray) (hp : 0 ≤ p) (hp1 : p ≤ 1000000) (hl : 1 ≤ l.length) (hl1 : l.length ≤ 1000000) :
    ∃ r, Ev (fun k => spec_l1Rd_of.f k s p l) (r, p + 1) ∧ r ∈ l := by
  obtain ⟨i, hi, h0, h1⟩ := pick_ev s hs p (l.length : Int) hp hp1 (by omega) (by omega)
  obtain ⟨j, rfl⟩ : ∃ j : Nat, i = (j : Int) := ⟨i.toNat, by omega⟩
  refine ⟨l[j]'(by omega), ?_, List.getElem_mem _⟩
  simp only [spec_l1Rd_of.f]
  refine Ev.bind hi ?_
  simp only [if_pos h0, if_pos h1, rdOf_get _ l j (by omega)]
  exact Ev.now _

theorem l11Cut_ev (s : List Int) (hs : CodeOk s) (p : Int) (t : ByteArray) (hp : 0 ≤ p) (hp1 : p ≤ 700000) (ht : t.size ≤ 900000) : ∃ r q, Ev (fun k => spec_l11Cut.f k s p t) (r, q) ∧ p ≤ q ∧ q ≤ p + 3 ∧ r.size ≤ t.size + 1 := by
  obtain ⟨i, hi, i0, i1⟩ := pick_ev s hs p ((t.size : Int) + 1) hp (by omega) (by omega) (by omega)
  obtain ⟨j, hj, j0, j1⟩ := pick_ev s hs (p + 1) 5 (by omega) (by omega) (by omega) (by omega)
  obtain ⟨m, rfl⟩ : ∃ m : Nat, i = (m : Int) := ⟨i.toNat, by omega⟩
  have z1 : (t.extract 0 m).size = m := by rw [ByteArray.size_extract]; omega
  have z2 : (t.extract m t.size).size = t.size - m := by rw [ByteArray.size_extract]; omega
  simp only [spec_l11Cut.f, wrap_id (x := (t.size : Int) + 1) (by omega) (by omega)]
  by_cases c0 : j = 0
  · obtain ⟨x, hx, hxm⟩ := of_ev s hs (p + 1 + 1) (([(⟨#[32]⟩ : ByteArray), (⟨#[58]⟩ : ByteArray), (⟨#[10]⟩ : ByteArray), (⟨#[48]⟩ : ByteArray), (⟨#[120]⟩ : ByteArray), (⟨#[61]⟩ : ByteArray), (⟨#[45]⟩ : ByteArray), (⟨#[41]⟩ : ByteArray)] : List ByteArray)) (by omega) (by omega) (by decide) (by decide)
    have hxs : x.size = 1 := by
      have h : ∀ x ∈ (([(⟨#[32]⟩ : ByteArray), (⟨#[58]⟩ : ByteArray), (⟨#[10]⟩ : ByteArray), (⟨#[48]⟩ : ByteArray), (⟨#[120]⟩ : ByteArray), (⟨#[61]⟩ : ByteArray), (⟨#[45]⟩ : ByteArray), (⟨#[41]⟩ : ByteArray)] : List ByteArray)), x.size = 1 := by decide
      exact h x hxm
    have z3 : (t.extract 0 m ++ x).size = m + 1 := by rw [ByteArray.size_append, z1, hxs]
    refine ⟨(t.extract 0 m ++ x) ++ t.extract m t.size, p + 1 + 1 + 1, Ev.bind hi (Ev.bind hj ?_), by omega, by omega, by rw [ByteArray.size_append, z3, z2]; omega⟩
    simp only [if_pos c0, if_pos i0, if_pos (show (m : Int) ≤ (t.size : Int) by omega), toNat_cast]
    refine Ev.bind hx ?_
    simp only [z1, z2, z3, hxs, if_pos (show m + 1 ≤ 9223372036854775807 by omega), if_pos (show m + 1 + (t.size - m) ≤ 9223372036854775807 by omega)]
    exact Ev.now _
  · by_cases c1 : j = 1
    · refine ⟨t.extract 0 m, p + 1 + 1, Ev.bind hi (Ev.bind hj ?_), by omega, by omega, by omega⟩
      simp only [if_neg c0, if_pos c1, if_pos i0, if_pos (show (m : Int) ≤ (t.size : Int) by omega), toNat_cast]
      exact Ev.now _
    · refine ⟨t, p + 1 + 1, Ev.bind hi (Ev.bind hj ?_), by omega, by omega, by omega⟩
      simp only [if_neg c0, if_neg c1]
      exact Ev.now _

def baseFields : List S75 := [⟨(⟨#[116, 105, 116, 108, 101]⟩ : ByteArray), 1, 3⟩, ⟨(⟨#[98, 111, 100, 121]⟩ : ByteArray), 1, 1⟩, ⟨(⟨#[112, 114, 105, 99, 101]⟩ : ByteArray), 2, 0⟩, ⟨(⟨#[99, 111, 108, 111, 114]⟩ : ByteArray), 3, 0⟩]

theorem base_drawn : drawnF 4 baseFields := by
  refine ⟨by decide, fun f hf => ?_⟩
  unfold baseFields at hf
  simp only [List.mem_cons, List.not_mem_nil, or_false] at hf
  unfold fieldNames
  rcases hf with rfl | rfl | rfl | rfl <;> simp

theorem l10Fields_eq : spec_l10Fields.f = some baseFields := rfl

theorem l11Fields_ev (s : List Int) (hs : CodeOk s) (p : Int) (hp : 0 ≤ p) (hp1 : p ≤ 900000) : ∃ r, Ev (fun k => spec_l11Fields.f k s p) (r, p + 1) ∧ drawnF 4 r ∧ 1 ≤ r.length := by
  obtain ⟨x, hx, x0, x1⟩ := pick_ev s hs p 4 hp (by omega) (by omega) (by omega)
  have hl : (baseFields.length : Int) = 4 := rfl
  have n1 : (1 : Int).toNat = 1 := rfl
  simp only [spec_l11Fields.f, l10Fields_eq, Option.bind_some]
  by_cases c0 : x = 0
  · refine ⟨baseFields.take 1, Ev.bind hx ?_, ⟨by decide, fun f hf => base_drawn.2 f (List.mem_of_mem_take hf)⟩, by decide⟩
    simp only [if_pos c0, hl, if_pos (show (1 : Int) ≤ 4 by decide), n1]
    exact Ev.now _
  · by_cases c1 : x = 1
    · refine ⟨baseFields.drop 1, Ev.bind hx ?_, ⟨by decide, fun f hf => base_drawn.2 f (List.mem_of_mem_drop hf)⟩, by decide⟩
      simp only [if_neg c0, if_pos c1, hl, if_pos (show (1 : Int) ≤ 4 by decide), n1]
      exact Ev.now _
    · refine ⟨baseFields, Ev.bind hx ?_, base_drawn, by decide⟩
      simp only [if_neg c0, if_neg c1]
      exact Ev.now _

theorem tailT_size (m : Nat) (sep : ByteArray) : ∀ (xs : List ByteArray), (∀ x ∈ xs, x.size ≤ m) → (tailT xs sep).size ≤ (sep.size + m) * xs.length
  | [], _ => by rw [tailT_nil]; exact Nat.zero_le _
  | x :: xs, h => by
    have h1 := tailT_size m sep xs (fun y hy => h y (List.mem_cons_of_mem _ hy))
    have h2 := h x (by simp)
    rw [tailT_cons, ByteArray.size_append, ByteArray.size_append, List.length_cons, Nat.mul_succ]
    omega

theorem joinT_size (m : Nat) (sep : ByteArray) (xs : List ByteArray) (h : ∀ x ∈ xs, x.size ≤ m) : (joinT xs sep).size ≤ (sep.size + m) * xs.length := by
  cases xs with
  | nil => rw [joinT_nil]; exact Nat.zero_le _
  | cons x xs =>
    have h1 := tailT_size m sep xs (fun y hy => h y (List.mem_cons_of_mem _ hy))
    have h2 := h x (by simp)
    rw [joinT_cons, ByteArray.size_append, List.length_cons, Nat.mul_succ]
    omega

theorem fieldsPutB_size (l : List S75) : (fieldsPutB l).size ≤ 136 := by
  unfold fieldsPutB
  by_cases h : fieldsB l = true
  · obtain ⟨h1, h2⟩ := good_of_fields h
    rw [if_pos h]
    have := joinT_size 33 sp (l.map fieldT) (fun x hx => by
      obtain ⟨f, hf, rfl⟩ := List.mem_map.1 hx
      exact fieldT_size f (h1 f hf))
    have zs : sp.size = 1 := rfl
    rw [List.length_map, zs] at this
    omega
  · rw [if_neg h]; exact Nat.zero_le _

theorem u8_range {l : List Int} (h : ∀ x ∈ l, (Lit.int .u8 x).wf = true) : ∀ c ∈ l, 0 ≤ c ∧ c ≤ 255 := by
  intro c hc
  have := h c hc
  simp [Lit.wf, IntKind.min, IntKind.max, IntKind.bits, IntKind.signed] at this
  omega

theorem DrawFieldsGet_ev (l : List Int) (h : ∀ x ∈ l, (Lit.int .u8 x).wf = true) : ∃ t, Ev (fun k => spec_DrawFieldsGet.f k l) t ∧ t.size ≤ 137 := by
  obtain ⟨s', h1, hs⟩ := l1Open_eq l (u8_range h)
  obtain ⟨r, hr, hd, _⟩ := l11Fields_ev s' hs 0 (by omega) (by omega)
  have hz := fieldsPutB_size r
  obtain ⟨t, p, ht, p0, p1, p2⟩ := l11Cut_ev s' hs (0 + 1) (fieldsPutB r) (by omega) (by omega) (by omega)
  refine ⟨t, ?_, by omega⟩
  simp only [spec_DrawFieldsGet.f, h1, Option.bind_some]
  exact Ev.bind hr (Ev.bind (spec_FieldsPut_ev r (by have := hd.1; omega) (drawnF_size hd)) (Ev.bind ht (Ev.now _)))

theorem one_ev (s : List Int) (hs : CodeOk s) (p : Int) (l : List Int) (hp : 0 ≤ p) (hp1 : p ≤ 1000000) (hl : 1 ≤ l.length) (hl1 : l.length ≤ 1000000) :
    ∃ r, Ev (fun k => spec_l1Rd_one.f k s p l) (r, p + 1) ∧ r ∈ l := by
  obtain ⟨i, hi, h0, h1⟩ := pick_ev s hs p (l.length : Int) hp hp1 (by omega) (by omega)
  obtain ⟨j, rfl⟩ : ∃ j : Nat, i = (j : Int) := ⟨i.toNat, by omega⟩
  refine ⟨l[j]'(by omega), ?_, List.getElem_mem _⟩
  simp only [spec_l1Rd_one.f]
  refine Ev.bind hi ?_
  simp only [if_pos h0, if_pos h1, rd_get l j (by omega)]
  exact Ev.now _

theorem l11AnyFields_ev (s : List Int) (hs : CodeOk s) (p : Int) (hp : 0 ≤ p) (hp1 : p ≤ 800000) : ∃ r q, Ev (fun k => spec_l11AnyFields.f k s p) (r, q) ∧ p ≤ q ∧ q ≤ p + 5 ∧ drawnF 5 r := by
  obtain ⟨r, hr, hd, hl1⟩ := l11Fields_ev s hs p hp (by omega)
  obtain ⟨x, hx, x0, x1⟩ := pick_ev s hs (p + 1) 12 (by omega) (by omega) (by omega) (by omega)
  have hl := hd.1
  simp only [spec_l11AnyFields.f, Option.bind_some, List.nil_append, List.length_nil, Nat.zero_add]
  have st : ∀ (R : List S75 × Int), Ev (fun k => (spec_l1Rd_pick.f k s (p + 1) 12).bind fun bt287 => (if bt287.1 = 0 then ((spec_l1Rd_of.f k s bt287.2 (([(⟨#[116, 105, 116, 108, 101]⟩ : ByteArray), (⟨#[122]⟩ : ByteArray), (⟨#[]⟩ : ByteArray)] : List ByteArray))).bind fun bt292 => ((spec_l1Rd_pick.f k s bt292.2 5).bind fun bt294 => ((spec_l1Rd_pick.f k s bt294.2 11).bind fun bt296 => (if r.length < 4398046511104 then (some ((r ++ [(⟨bt292.1, bt294.1, bt296.1⟩ : S75)]), bt296.2)) else (none))))) else (if bt287.1 = 1 then ((spec_l1Rd_one.f k s bt287.2 (([0, 9, 10] : List Int))).bind fun bt304 => (if 0 < (r.length : Int) then (some ((r.set (0 : Int).toNat (⟨(rd_T75 r 0).f0, (rd_T75 r 0).f1, bt304.1⟩ : S75)), bt304.2)) else (none))) else (if bt287.1 = 2 then (some (([] : List (S75)), bt287.2)) else (some (r, bt287.2)))))) R →
      Ev (fun k => (spec_l11Fields.f k s p).bind fun bt280 => (if bt280.1.length < 4398046511104 then ((spec_l1Rd_pick.f k s bt280.2 12).bind fun bt287 => (if bt287.1 = 0 then ((spec_l1Rd_of.f k s bt287.2 (([(⟨#[116, 105, 116, 108, 101]⟩ : ByteArray), (⟨#[122]⟩ : ByteArray), (⟨#[]⟩ : ByteArray)] : List ByteArray))).bind fun bt292 => ((spec_l1Rd_pick.f k s bt292.2 5).bind fun bt294 => ((spec_l1Rd_pick.f k s bt294.2 11).bind fun bt296 => (if bt280.1.length < 4398046511104 then (some ((bt280.1 ++ [(⟨bt292.1, bt294.1, bt296.1⟩ : S75)]), bt296.2)) else (none))))) else (if bt287.1 = 1 then ((spec_l1Rd_one.f k s bt287.2 (([0, 9, 10] : List Int))).bind fun bt304 => (if 0 < (bt280.1.length : Int) then (some ((bt280.1.set (0 : Int).toNat (⟨(rd_T75 bt280.1 0).f0, (rd_T75 bt280.1 0).f1, bt304.1⟩ : S75)), bt304.2)) else (none))) else (if bt287.1 = 2 then (some (([] : List (S75)), bt287.2)) else (some (bt280.1, bt287.2)))))) else (none))) R := by
    intro R hR
    refine Ev.bind hr ?_
    simp only [if_pos (show r.length < 4398046511104 by omega)] at hR ⊢
    exact hR
  by_cases c0 : x = 0
  · obtain ⟨a, ha, ham⟩ := of_ev s hs (p + 1 + 1) (([(⟨#[116, 105, 116, 108, 101]⟩ : ByteArray), (⟨#[122]⟩ : ByteArray), (⟨#[]⟩ : ByteArray)] : List ByteArray)) (by omega) (by omega) (by decide) (by decide)
    obtain ⟨b, hb, b0, b1⟩ := pick_ev s hs (p + 1 + 1 + 1) 5 (by omega) (by omega) (by omega) (by omega)
    obtain ⟨c, hc, e0, e1⟩ := pick_ev s hs (p + 1 + 1 + 1 + 1) 11 (by omega) (by omega) (by omega) (by omega)
    refine ⟨r ++ [⟨a, b, c⟩], p + 1 + 1 + 1 + 1 + 1, st _ (Ev.bind hx ?_), by omega, by omega, by simp; omega, fun f hf => ?_⟩
    · simp only [if_pos c0]
      refine Ev.bind ha (Ev.bind hb (Ev.bind hc ?_))
      simp only [if_pos (show r.length < 4398046511104 by omega)]
      exact Ev.now _
    · rcases List.mem_append.1 hf with h | h
      · exact hd.2 f h
      · rw [List.mem_singleton.1 h]
        have hsub : ∀ x ∈ (([(⟨#[116, 105, 116, 108, 101]⟩ : ByteArray), (⟨#[122]⟩ : ByteArray), (⟨#[]⟩ : ByteArray)] : List ByteArray)), x ∈ fieldNames := by
          intro x hx
          simp only [List.mem_cons, List.not_mem_nil, or_false] at hx
          unfold fieldNames
          rcases hx with rfl | rfl | rfl <;> simp
        exact hsub a ham
  · by_cases c1 : x = 1
    · obtain ⟨a, ha, ham⟩ := one_ev s hs (p + 1 + 1) ([0, 9, 10] : List Int) (by omega) (by omega) (by decide) (by decide)
      have h0 := rdi_Field r 0 (by omega)
      refine ⟨r.set 0 ⟨(r[0]'(by omega)).f0, (r[0]'(by omega)).f1, a⟩, p + 1 + 1 + 1, st _ (Ev.bind hx ?_), by omega, by omega, by simp; omega, fun f hf => ?_⟩
      · simp only [if_neg c0, if_pos c1]
        refine Ev.bind ha ?_
        have n0 : (0 : Int).toNat = 0 := rfl
        have h0' : rd_T75 r 0 = r[0]'(by omega) := h0
        simp only [if_pos (show 0 < (r.length : Int) by omega), n0, h0']
        exact Ev.now _
      · rcases List.mem_or_eq_of_mem_set hf with h | h
        · exact hd.2 f h
        · rw [h]; exact hd.2 (r[0]'(by omega)) (List.getElem_mem (show 0 < r.length by omega))
    · by_cases c2 : x = 2
      · refine ⟨[], p + 1 + 1, st _ (Ev.bind hx ?_), by omega, by omega, by simp, fun f hf => by simp at hf⟩
        simp only [if_neg c0, if_neg c1, if_pos c2]
        exact Ev.now _
      · refine ⟨r, p + 1 + 1, st _ (Ev.bind hx ?_), by omega, by omega, by omega, hd.2⟩
        simp only [if_neg c0, if_neg c1, if_neg c2]
        exact Ev.now _

theorem DrawFieldsPut_ev (l : List Int) (h : ∀ x ∈ l, (Lit.int .u8 x).wf = true) : ∃ r, Ev (fun k => spec_DrawFieldsPut.f k l) r ∧ drawnF 5 r := by
  obtain ⟨s', h1, hs⟩ := l1Open_eq l (u8_range h)
  obtain ⟨r, q, hr, q0, q1, q2⟩ := l11AnyFields_ev s' hs 0 (by omega) (by omega)
  refine ⟨r, ?_, q2⟩
  simp only [spec_DrawFieldsPut.f, h1, Option.bind_some]
  exact Ev.bind hr (Ev.now _)

theorem eq_text : ((⟨#[]⟩ : ByteArray).toList != ([] : List UInt8)) = false := by rw [toList_data]; rfl

theorem fields_ne {l : List S75} (h : fieldsB l = true) : joinT (l.map fieldT) sp ≠ ⟨#[]⟩ := by
  have hb := (fieldsB_iff.1 h).2
  cases l with
  | nil => simp at hb
  | cons f l =>
    intro e
    rw [List.map_cons, joinT_cons] at e
    have h1 := congrArg ByteArray.size e
    rw [ByteArray.size_append] at h1
    have e0 : (⟨#[]⟩ : ByteArray).size = 0 := rfl
    have h2 : 4 ≤ (fieldT f).size := by
      unfold fieldT
      split
      · rw [ByteArray.size_append, ByteArray.size_append]
        have : (⟨#[58, 116, 101, 120, 116, 58]⟩ : ByteArray).size = 6 := rfl
        omega
      · split
        · rw [ByteArray.size_append]
          have : (⟨#[58, 110, 117, 109]⟩ : ByteArray).size = 4 := rfl
          omega
        · rw [ByteArray.size_append]
          have : (⟨#[58, 116, 97, 103]⟩ : ByteArray).size = 4 := rfl
          omega
    omega

theorem fieldsGet_no {l : List S75} (h : ¬ fieldsB l = true) : fieldsPutB l = ⟨#[]⟩ ∧ fieldsRes (⟨#[]⟩ : ByteArray) (fieldsI (⟨#[]⟩ : ByteArray)) = ([], false) := by
  unfold fieldsPutB
  rw [if_neg h]
  exact ⟨rfl, fieldsRes_neg (fun h1 h2 => fields_ne h1 h2)⟩

theorem fieldsGet_put {l : List S75} (h : fieldsB l = true) : fieldsRes (fieldsPutB l) (fieldsI (fieldsPutB l)) = (l, true) ∧ fieldsPutB l ≠ ⟨#[]⟩ := by
  unfold fieldsPutB
  rw [if_pos h, (fields_back h).1]
  exact ⟨fieldsRes_pos h rfl, fields_ne h⟩

theorem ne_text {s : ByteArray} (h : s ≠ ⟨#[]⟩) : (s.toList != ([] : List UInt8)) = true := by
  rw [bne_iff_ne]
  intro e
  exact h (ByteArray.ext (Array.toList_inj.1 (by rw [← toList_data]; exact e)))

open Classical in
theorem sdFields_l0 (a b : List S75) (hn : a.length < 4611686018427387904) (hl : a.length = b.length) : ∀ (d i : Nat), i + d = a.length → a = b → Ev (fun k => laws_sdFields.l0 k a b (i : Int)) true := by
  intro d
  induction d with
  | zero =>
    intro i hi hab
    refine Ev.step (fun k => laws_sdFields.l0.eq_2 _ _ _ _) ?_
    simp only [if_neg (show ¬ ((i : Int) < (a.length : Int)) by omega)]
    exact Ev.now _
  | succ d ih =>
    intro i hi hab
    subst hab
    refine Ev.step (fun k => laws_sdFields.l0.eq_2 _ _ _ _) ?_
    simp only [if_pos (show ((i : Int) < (a.length : Int)) by omega), if_pos (show 0 ≤ (i : Int) by omega), beq_self_eq_true, Bool.not_true, Bool.or_self, if_neg (show ¬ (false = true) by decide), wsucc i (by omega)]
    exact ih (i + 1) (by omega) rfl

theorem sdFields_refl (a : List S75) (hn : a.length < 4611686018427387904) : Ev (fun k => laws_sdFields.f k a a) true := by
  simp only [laws_sdFields.f, if_true]
  exact sdFields_l0 a a hn rfl a.length 0 (by omega) rfl

theorem FnFields : laws_FnFields.PureX := by
  intro l0 l1 hw0 hw1
  refine Ev.rounds (g := fun k => laws_FnFields.f k l0 l1) ?_
  have hj : Ev (fun k => laws_FnFields.j0 k l0 l1 true) true := by
    refine Ev.step (fun k => laws_FnFields.j0.eq_2 _ _ _ _) ?_
    simp only [if_true]; exact Ev.now _
  simp only [laws_FnFields.f]
  by_cases hg : (l0.length : Int) > 1048576
  · simp only [if_pos hg]; exact hj
  simp only [if_neg hg]
  by_cases hg1 : (l1.length : Int) > 1048576
  · simp only [decide_eq_true hg1]; exact hj
  simp only [decide_eq_false hg1]
  refine Ev.step (fun k => laws_FnFields.j0.eq_2 _ _ _ _) ?_
  simp only [if_neg (show ¬ (false = true) by decide)]
  have hj1 : Ev (fun k => laws_FnFields.j1 k l1 false) true := by
    refine Ev.step (fun k => laws_FnFields.j1.eq_2 _ _ _) ?_
    simp only [if_neg (show ¬ (false = true) by decide)]
    obtain ⟨t, ht, htz⟩ := DrawFieldsGet_ev l1 hw1.2
    refine Ev.bind ht ?_
    refine Ev.bind (impl_FieldsGet_ev t (by omega)) ?_
    refine Ev.bind (spec_FieldsGet_ev t (by omega)) ?_
    simp only [beq_self_eq_true, if_true]
    rcases fieldsRes_form t (fieldsI t) with h | ⟨h, hf, hp⟩
    · rw [h]
      refine Ev.bind (sdFields_refl _ (by simp)) ?_
      simp only [if_true, if_neg (show ¬ (false = true) by decide)]
      exact Ev.now _
    · obtain ⟨h1, h2⟩ := good_of_fields hf
      rw [h]
      refine Ev.bind (sdFields_refl _ (by show (fieldsI t).length < _; omega)) ?_
      simp only [if_true]
      have hput := impl_FieldsPut_ev (fieldsI t) (by omega) (fun x hx => by have := (h1 x hx).2; omega)
      simp only [fieldsPutB, if_pos hf, hp] at hput
      refine Ev.bind hput ?_
      simp only [beq_self_eq_true]
      exact Ev.now _
  obtain ⟨F, hd, hdr⟩ := DrawFieldsPut_ev l0 hw0.2
  have hF5 := hdr.1
  have hz := fieldsPutB_size F
  refine Ev.bind hd ?_
  refine Ev.bind (impl_FieldsPut_ev F (by omega) (drawnF_size hdr)) ?_
  refine Ev.bind (impl_FieldsGet_ev _ (by omega)) ?_
  refine Ev.bind (spec_FieldsPut_ev F (by omega) (drawnF_size hdr)) ?_
  simp only [if_true]
  refine Ev.bind (impl_FieldsOk_ev F (by omega) (drawnF_size hdr)) ?_
  refine Ev.bind (spec_FieldsOk_ev F (by omega) (drawnF_size hdr)) ?_
  simp only [bne_self_eq_false, if_neg (show ¬ (false = true) by decide)]
  by_cases hf : fieldsB F = true
  · obtain ⟨h1, h2⟩ := fieldsGet_put hf
    simp only [h1, ne_text h2, bne_self_eq_false, if_neg (show ¬ (false = true) by decide), if_true]
    refine Ev.bind (sdFields_refl _ (by omega)) ?_
    simp only [Bool.not_true]
    exact hj1
  · obtain ⟨h1, h2⟩ := fieldsGet_no hf
    simp only [h1, h2, eq_text, bne_self_eq_false, if_neg (show ¬ (false = true) by decide)]
    exact hj1

end Go.Proofs.YtelcdhjdlgedeaaDoor.Pure
